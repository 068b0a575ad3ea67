import Derived.Test.YtifchnkhnphibaaF9
namespace Go.Proofs.Ytifchnkhnphibaa.Am
set_option linter.unusedSimpArgs false
set_option linter.unusedVariables false
open Go Go.Proofs
attribute [local irreducible] wpA

def spRfield : Spec
  | [.ptr 0 0 0], [.var [.fsl 1 es]] => (inB es).bind fun l => (decF l).elim (some (.pan torn, [.gone])) fun p => some (.ret (av1 p.1), [.var [.fsl 1 (bv p.2)]])
  | _, _ => none

set_option maxHeartbeats 4000000 in
theorem rfield_ok : CallOk Try.prog 38 spRfield := by
  refine ok_38 E9c_ok spRfield fun args mem r mem1 h => ?_
  unfold spRfield at h
  split at h
  case h_2 => cases h
  rename_i es
  obtain ⟨l, hl, h2⟩ := Option.bind_eq_some_iff.1 h
  clear h
  have := inB_some es l hl
  subst this
  clear hl
  unfold ac_38
  have w1 : IntKind.wrap .i64 1 = 1 := by decide
  have w2 : IntKind.wrap .i64 2 = 2 := by decide
  have w3 : IntKind.wrap .i64 3 = 3 := by decide
  cases l with
  | nil =>
    cases h2
    repeat' first
        | with_reducible refine wp_regionS (seg_eval (by simp -dsimp -implicitDefEqProofs; rfl) ?_)
        | with_reducible refine wp_region (seg_eval (by simp -dsimp -implicitDefEqProofs; rfl) ?_)
        | with_reducible refine wp_drawsS (seg_eval (by simp -dsimp -implicitDefEqProofs; rfl) ?_)
        | with_reducible refine wp_draws (seg_eval (by simp -dsimp -implicitDefEqProofs; rfl) ?_)
        | with_reducible refine seg_fin ?_
        | with_reducible refine seg_pan ?_
        | with_reducible refine seg_both ?_ ?_
        | with_reducible refine seg_case (fun x h => ?_) (fun h => ?_)
        | with_reducible refine seg_gate (fun h => ?_) (fun h => ?_)
        | with_reducible refine seg_need ?_ ?_
        | with_reducible refine wp_assoc ?_ | with_reducible refine wp_skipS ?_ | with_reducible refine wp_retS ?_ | with_reducible refine wp_exitS ?_ | with_reducible refine wp_dropS (wp_eqT (by simp -dsimp -implicitDefEqProofs; rfl) ?_) | with_reducible refine wp_sealS (by simp -dsimp -implicitDefEqProofs; rfl) ?_ | with_reducible refine wp_seal (by simp -dsimp -implicitDefEqProofs; rfl) ?_ | with_reducible refine wp_blockS ?_ | with_reducible refine wp_skip' ?_ | with_reducible refine wp_ret' ?_ | with_reducible refine wp_exit' ?_ | with_reducible refine wp_drop (wp_eqT (by simp -dsimp -implicitDefEqProofs; rfl) ?_) | with_reducible refine wp_block' ?_
        | with_reducible refine wp_condVS (by simp -dsimp -implicitDefEqProofs; rfl) ?_
        | with_reducible refine wp_condV (by simp -dsimp -implicitDefEqProofs; rfl) ?_
        | with_reducible refine cond_t ?_ | with_reducible refine cond_f ?_ | with_reducible refine cond_v (fun h => ?_) (fun h => ?_)
        | with_reducible refine post_then ?_ | with_reducible refine post_thenE ?_ | with_reducible refine post_thenP ?_ | with_reducible refine post_blkP ?_ | with_reducible refine post_thenR ?_ | with_reducible refine post_blkN ?_ | with_reducible refine post_blkE ?_ | with_reducible refine post_blkF rfl ?_ | with_reducible refine post_blkR ?_
        | with_reducible refine seg_eval (by simp -dsimp -implicitDefEqProofs; rfl) ?_
    exact post_finP [0] _ ⟨[], [0], rfl, rfl, rfl, rfl⟩ rfl
  | cons c l =>
    have hcl := c.toNat_lt
    have hc64 : IntKind.wrap .i64 (c.toNat : Int) = (c.toNat : Int) := IntWalk.i64_in _ (by omega)
    by_cases k1 : c.toNat = 1
    · cases hn : decN l with
      | none =>
        have e : decF (c :: l) = none := by simp [decF, decG, k1, hn]
        rw [e] at h2
        cases h2
        repeat' first
            | with_reducible refine wp_regionS (seg_eval (by simp -dsimp -implicitDefEqProofs [k1, w1, hn]; rfl) ?_)
            | with_reducible refine wp_region (seg_eval (by simp -dsimp -implicitDefEqProofs [k1, w1, hn]; rfl) ?_)
            | with_reducible refine wp_drawsS (seg_eval (by simp -dsimp -implicitDefEqProofs [k1, w1, hn]; rfl) ?_)
            | with_reducible refine wp_draws (seg_eval (by simp -dsimp -implicitDefEqProofs [k1, w1, hn]; rfl) ?_)
            | with_reducible refine seg_fin ?_
            | with_reducible refine seg_pan ?_
            | with_reducible refine seg_both ?_ ?_
            | with_reducible refine seg_case (fun x h => ?_) (fun h => ?_)
            | with_reducible refine seg_gate (fun h => ?_) (fun h => ?_)
            | with_reducible refine seg_need ?_ ?_
            | with_reducible refine wp_assoc ?_ | with_reducible refine wp_skipS ?_ | with_reducible refine wp_retS ?_ | with_reducible refine wp_exitS ?_ | with_reducible refine wp_dropS (wp_eqT (by simp -dsimp -implicitDefEqProofs [k1, w1, hn]; rfl) ?_) | with_reducible refine wp_sealS (by simp -dsimp -implicitDefEqProofs [k1, w1, hn]; rfl) ?_ | with_reducible refine wp_seal (by simp -dsimp -implicitDefEqProofs [k1, w1, hn]; rfl) ?_ | with_reducible refine wp_blockS ?_ | with_reducible refine wp_skip' ?_ | with_reducible refine wp_ret' ?_ | with_reducible refine wp_exit' ?_ | with_reducible refine wp_drop (wp_eqT (by simp -dsimp -implicitDefEqProofs [k1, w1, hn]; rfl) ?_) | with_reducible refine wp_block' ?_
            | with_reducible refine wp_condVS (by simp -dsimp -implicitDefEqProofs [k1, w1, hn]; rfl) ?_
            | with_reducible refine wp_condV (by simp -dsimp -implicitDefEqProofs [k1, w1, hn]; rfl) ?_
            | with_reducible refine cond_t ?_ | with_reducible refine cond_f ?_ | with_reducible refine cond_v (fun h => ?_) (fun h => ?_)
            | with_reducible refine post_then ?_ | with_reducible refine post_thenE ?_ | with_reducible refine post_thenP ?_ | with_reducible refine post_blkP ?_ | with_reducible refine post_thenR ?_ | with_reducible refine post_blkN ?_ | with_reducible refine post_blkE ?_ | with_reducible refine post_blkF rfl ?_ | with_reducible refine post_blkR ?_
            | with_reducible refine seg_eval (by simp -dsimp -implicitDefEqProofs [k1, w1, hn]; rfl) ?_
        exact post_finP [0] _ ⟨[], [0], rfl, rfl, rfl, rfl⟩ rfl
      | some p =>
        obtain ⟨n, rs⟩ := p
        have hlt := decN_lt hn
        have hm : may ⟨1, n, ⟨#[]⟩, 0⟩ = true := by simp [may]
        have e : decF (c :: l) = some (⟨1, n, ⟨#[]⟩, 0⟩, rs) := by simp [decF, decG, k1, hn, hm]
        rw [e] at h2
        cases h2
        repeat' first
            | with_reducible refine wp_regionS (seg_eval (by simp -dsimp -implicitDefEqProofs [k1, w1, hn, hm]; rfl) ?_)
            | with_reducible refine wp_region (seg_eval (by simp -dsimp -implicitDefEqProofs [k1, w1, hn, hm]; rfl) ?_)
            | with_reducible refine wp_drawsS (seg_eval (by simp -dsimp -implicitDefEqProofs [k1, w1, hn, hm]; rfl) ?_)
            | with_reducible refine wp_draws (seg_eval (by simp -dsimp -implicitDefEqProofs [k1, w1, hn, hm]; rfl) ?_)
            | with_reducible refine seg_fin ?_
            | with_reducible refine seg_pan ?_
            | with_reducible refine seg_both ?_ ?_
            | with_reducible refine seg_case (fun x h => ?_) (fun h => ?_)
            | with_reducible refine seg_gate (fun h => ?_) (fun h => ?_)
            | with_reducible refine seg_need ?_ ?_
            | with_reducible refine wp_assoc ?_ | with_reducible refine wp_skipS ?_ | with_reducible refine wp_retS ?_ | with_reducible refine wp_exitS ?_ | with_reducible refine wp_dropS (wp_eqT (by simp -dsimp -implicitDefEqProofs [k1, w1, hn, hm]; rfl) ?_) | with_reducible refine wp_sealS (by simp -dsimp -implicitDefEqProofs [k1, w1, hn, hm]; rfl) ?_ | with_reducible refine wp_seal (by simp -dsimp -implicitDefEqProofs [k1, w1, hn, hm]; rfl) ?_ | with_reducible refine wp_blockS ?_ | with_reducible refine wp_skip' ?_ | with_reducible refine wp_ret' ?_ | with_reducible refine wp_exit' ?_ | with_reducible refine wp_drop (wp_eqT (by simp -dsimp -implicitDefEqProofs [k1, w1, hn, hm]; rfl) ?_) | with_reducible refine wp_block' ?_
            | with_reducible refine wp_condVS (by simp -dsimp -implicitDefEqProofs [k1, w1, hn, hm]; rfl) ?_
            | with_reducible refine wp_condV (by simp -dsimp -implicitDefEqProofs [k1, w1, hn, hm]; rfl) ?_
            | with_reducible refine cond_t ?_ | with_reducible refine cond_f ?_ | with_reducible refine cond_v (fun h => ?_) (fun h => ?_)
            | with_reducible refine post_then ?_ | with_reducible refine post_thenE ?_ | with_reducible refine post_thenP ?_ | with_reducible refine post_blkP ?_ | with_reducible refine post_thenR ?_ | with_reducible refine post_blkN ?_ | with_reducible refine post_blkE ?_ | with_reducible refine post_blkF rfl ?_ | with_reducible refine post_blkR ?_
            | with_reducible refine seg_eval (by simp -dsimp -implicitDefEqProofs [k1, w1, hn, hm]; rfl) ?_
        · omega
        · exact post_fin rfl rfl ⟨[], [0], rfl, rfl, rfl, rfl⟩
    have b1 : ((c.toNat : Int) == 1) = false := by rw [beq_eq_false_iff_ne]; omega
    by_cases k2 : c.toNat = 2
    · cases hn : decN l with
      | none =>
        have e : decF (c :: l) = none := by simp [decF, decG, k2, hn]
        rw [e] at h2
        cases h2
        repeat' first
            | with_reducible refine wp_regionS (seg_eval (by simp -dsimp -implicitDefEqProofs [k2, w2, hn]; rfl) ?_)
            | with_reducible refine wp_region (seg_eval (by simp -dsimp -implicitDefEqProofs [k2, w2, hn]; rfl) ?_)
            | with_reducible refine wp_drawsS (seg_eval (by simp -dsimp -implicitDefEqProofs [k2, w2, hn]; rfl) ?_)
            | with_reducible refine wp_draws (seg_eval (by simp -dsimp -implicitDefEqProofs [k2, w2, hn]; rfl) ?_)
            | with_reducible refine seg_fin ?_
            | with_reducible refine seg_pan ?_
            | with_reducible refine seg_both ?_ ?_
            | with_reducible refine seg_case (fun x h => ?_) (fun h => ?_)
            | with_reducible refine seg_gate (fun h => ?_) (fun h => ?_)
            | with_reducible refine seg_need ?_ ?_
            | with_reducible refine wp_assoc ?_ | with_reducible refine wp_skipS ?_ | with_reducible refine wp_retS ?_ | with_reducible refine wp_exitS ?_ | with_reducible refine wp_dropS (wp_eqT (by simp -dsimp -implicitDefEqProofs [k2, w2, hn]; rfl) ?_) | with_reducible refine wp_sealS (by simp -dsimp -implicitDefEqProofs [k2, w2, hn]; rfl) ?_ | with_reducible refine wp_seal (by simp -dsimp -implicitDefEqProofs [k2, w2, hn]; rfl) ?_ | with_reducible refine wp_blockS ?_ | with_reducible refine wp_skip' ?_ | with_reducible refine wp_ret' ?_ | with_reducible refine wp_exit' ?_ | with_reducible refine wp_drop (wp_eqT (by simp -dsimp -implicitDefEqProofs [k2, w2, hn]; rfl) ?_) | with_reducible refine wp_block' ?_
            | with_reducible refine wp_condVS (by simp -dsimp -implicitDefEqProofs [k2, w2, hn]; rfl) ?_
            | with_reducible refine wp_condV (by simp -dsimp -implicitDefEqProofs [k2, w2, hn]; rfl) ?_
            | with_reducible refine cond_t ?_ | with_reducible refine cond_f ?_ | with_reducible refine cond_v (fun h => ?_) (fun h => ?_)
            | with_reducible refine post_then ?_ | with_reducible refine post_thenE ?_ | with_reducible refine post_thenP ?_ | with_reducible refine post_blkP ?_ | with_reducible refine post_thenR ?_ | with_reducible refine post_blkN ?_ | with_reducible refine post_blkE ?_ | with_reducible refine post_blkF rfl ?_ | with_reducible refine post_blkR ?_
            | with_reducible refine seg_eval (by simp -dsimp -implicitDefEqProofs [k2, w2, hn]; rfl) ?_
        exact post_finP [0] _ ⟨[], [0], rfl, rfl, rfl, rfl⟩ rfl
      | some p =>
        obtain ⟨n, rs⟩ := p
        have hlt := decN_lt hn
        have e0 : decF (c :: l) = ((if rs.length < min n 8001 then none else some ((⟨2, 0, ⟨(rs.take (min n 8001)).toArray⟩, 0⟩ : Fld), rs.drop (min n 8001))).bind fun p => if may p.1 = true then some p else none) := by
          simp [decF, decG, k2, hn]
        have hmin : (if (8001 : Int) < (n : Int) then (8001 : Int) else (n : Int)) = ((min n 8001 : Nat) : Int) := by split <;> omega
        have hk8 : min n 8001 ≤ 8001 := Nat.min_le_right _ _
        generalize min n 8001 = k at e0 hmin hk8
        have hk64 : IntKind.wrap .i64 (k : Int) = (k : Int) := IntWalk.i64_in _ (by omega)
        by_cases hks : rs.length < k
        · rw [if_pos hks] at e0
          have e : decF (c :: l) = none := e0
          rw [e] at h2
          cases h2
          have hd : decide (k ≤ rs.length) = false := by simp; omega
          repeat' first
              | with_reducible refine wp_regionS (seg_eval (by simp -dsimp -implicitDefEqProofs [k2, w2, hn, hmin, hk64, hd]; rfl) ?_)
              | with_reducible refine wp_region (seg_eval (by simp -dsimp -implicitDefEqProofs [k2, w2, hn, hmin, hk64, hd]; rfl) ?_)
              | with_reducible refine wp_drawsS (seg_eval (by simp -dsimp -implicitDefEqProofs [k2, w2, hn, hmin, hk64, hd]; rfl) ?_)
              | with_reducible refine wp_draws (seg_eval (by simp -dsimp -implicitDefEqProofs [k2, w2, hn, hmin, hk64, hd]; rfl) ?_)
              | with_reducible refine seg_fin ?_
              | with_reducible refine seg_pan ?_
              | with_reducible refine seg_both ?_ ?_
              | with_reducible refine seg_case (fun x h => ?_) (fun h => ?_)
              | with_reducible refine seg_gate (fun h => ?_) (fun h => ?_)
              | with_reducible refine seg_need ?_ ?_
              | with_reducible refine wp_assoc ?_ | with_reducible refine wp_skipS ?_ | with_reducible refine wp_retS ?_ | with_reducible refine wp_exitS ?_ | with_reducible refine wp_dropS (wp_eqT (by simp -dsimp -implicitDefEqProofs [k2, w2, hn, hmin, hk64, hd]; rfl) ?_) | with_reducible refine wp_sealS (by simp -dsimp -implicitDefEqProofs [k2, w2, hn, hmin, hk64, hd]; rfl) ?_ | with_reducible refine wp_seal (by simp -dsimp -implicitDefEqProofs [k2, w2, hn, hmin, hk64, hd]; rfl) ?_ | with_reducible refine wp_blockS ?_ | with_reducible refine wp_skip' ?_ | with_reducible refine wp_ret' ?_ | with_reducible refine wp_exit' ?_ | with_reducible refine wp_drop (wp_eqT (by simp -dsimp -implicitDefEqProofs [k2, w2, hn, hmin, hk64, hd]; rfl) ?_) | with_reducible refine wp_block' ?_
              | with_reducible refine wp_condVS (by simp -dsimp -implicitDefEqProofs [k2, w2, hn, hmin, hk64, hd]; rfl) ?_
              | with_reducible refine wp_condV (by simp -dsimp -implicitDefEqProofs [k2, w2, hn, hmin, hk64, hd]; rfl) ?_
              | with_reducible refine cond_t ?_ | with_reducible refine cond_f ?_ | with_reducible refine cond_v (fun h => ?_) (fun h => ?_)
              | with_reducible refine post_then ?_ | with_reducible refine post_thenE ?_ | with_reducible refine post_thenP ?_ | with_reducible refine post_blkP ?_ | with_reducible refine post_thenR ?_ | with_reducible refine post_blkN ?_ | with_reducible refine post_blkE ?_ | with_reducible refine post_blkF rfl ?_ | with_reducible refine post_blkR ?_
              | with_reducible refine seg_eval (by simp -dsimp -implicitDefEqProofs [k2, w2, hn, hmin, hk64, hd]; rfl) ?_
          all_goals first | omega | exact post_finP [0] _ ⟨[], [0], rfl, rfl, rfl, rfl⟩ rfl | exact post_fin rfl rfl ⟨[], [0], rfl, rfl, rfl, rfl⟩ | trace_state
        · rw [if_neg hks] at e0
          have hd : decide (k ≤ rs.length) = true := by simp; omega
          cases hm : may ⟨2, 0, ⟨(rs.take k).toArray⟩, 0⟩ with
          | false =>
            have e : decF (c :: l) = none := by rw [e0]; simp [hm]
            rw [e] at h2
            cases h2
            repeat' first
                | with_reducible refine wp_regionS (seg_eval (by simp -dsimp -implicitDefEqProofs [k2, w2, hn, hmin, hk64, hd, hm]; rfl) ?_)
                | with_reducible refine wp_region (seg_eval (by simp -dsimp -implicitDefEqProofs [k2, w2, hn, hmin, hk64, hd, hm]; rfl) ?_)
                | with_reducible refine wp_drawsS (seg_eval (by simp -dsimp -implicitDefEqProofs [k2, w2, hn, hmin, hk64, hd, hm]; rfl) ?_)
                | with_reducible refine wp_draws (seg_eval (by simp -dsimp -implicitDefEqProofs [k2, w2, hn, hmin, hk64, hd, hm]; rfl) ?_)
                | with_reducible refine seg_fin ?_
                | with_reducible refine seg_pan ?_
                | with_reducible refine seg_both ?_ ?_
                | with_reducible refine seg_case (fun x h => ?_) (fun h => ?_)
                | with_reducible refine seg_gate (fun h => ?_) (fun h => ?_)
                | with_reducible refine seg_need ?_ ?_
                | with_reducible refine wp_assoc ?_ | with_reducible refine wp_skipS ?_ | with_reducible refine wp_retS ?_ | with_reducible refine wp_exitS ?_ | with_reducible refine wp_dropS (wp_eqT (by simp -dsimp -implicitDefEqProofs [k2, w2, hn, hmin, hk64, hd, hm]; rfl) ?_) | with_reducible refine wp_sealS (by simp -dsimp -implicitDefEqProofs [k2, w2, hn, hmin, hk64, hd, hm]; rfl) ?_ | with_reducible refine wp_seal (by simp -dsimp -implicitDefEqProofs [k2, w2, hn, hmin, hk64, hd, hm]; rfl) ?_ | with_reducible refine wp_blockS ?_ | with_reducible refine wp_skip' ?_ | with_reducible refine wp_ret' ?_ | with_reducible refine wp_exit' ?_ | with_reducible refine wp_drop (wp_eqT (by simp -dsimp -implicitDefEqProofs [k2, w2, hn, hmin, hk64, hd, hm]; rfl) ?_) | with_reducible refine wp_block' ?_
                | with_reducible refine wp_condVS (by simp -dsimp -implicitDefEqProofs [k2, w2, hn, hmin, hk64, hd, hm]; rfl) ?_
                | with_reducible refine wp_condV (by simp -dsimp -implicitDefEqProofs [k2, w2, hn, hmin, hk64, hd, hm]; rfl) ?_
                | with_reducible refine cond_t ?_ | with_reducible refine cond_f ?_ | with_reducible refine cond_v (fun h => ?_) (fun h => ?_)
                | with_reducible refine post_then ?_ | with_reducible refine post_thenE ?_ | with_reducible refine post_thenP ?_ | with_reducible refine post_blkP ?_ | with_reducible refine post_thenR ?_ | with_reducible refine post_blkN ?_ | with_reducible refine post_blkE ?_ | with_reducible refine post_blkF rfl ?_ | with_reducible refine post_blkR ?_
                | with_reducible refine seg_eval (by simp -dsimp -implicitDefEqProofs [k2, w2, hn, hmin, hk64, hd, hm]; rfl) ?_
            all_goals first | omega | exact post_finP [0] _ ⟨[], [0], rfl, rfl, rfl, rfl⟩ rfl | exact post_fin rfl rfl ⟨[], [0], rfl, rfl, rfl, rfl⟩ | trace_state
          | true =>
            have e : decF (c :: l) = some (⟨2, 0, ⟨(rs.take k).toArray⟩, 0⟩, rs.drop k) := by rw [e0]; simp [hm]
            rw [e] at h2
            cases h2
            repeat' first
                | with_reducible refine wp_regionS (seg_eval (by simp -dsimp -implicitDefEqProofs [k2, w2, hn, hmin, hk64, hd, hm]; rfl) ?_)
                | with_reducible refine wp_region (seg_eval (by simp -dsimp -implicitDefEqProofs [k2, w2, hn, hmin, hk64, hd, hm]; rfl) ?_)
                | with_reducible refine wp_drawsS (seg_eval (by simp -dsimp -implicitDefEqProofs [k2, w2, hn, hmin, hk64, hd, hm]; rfl) ?_)
                | with_reducible refine wp_draws (seg_eval (by simp -dsimp -implicitDefEqProofs [k2, w2, hn, hmin, hk64, hd, hm]; rfl) ?_)
                | with_reducible refine seg_fin ?_
                | with_reducible refine seg_pan ?_
                | with_reducible refine seg_both ?_ ?_
                | with_reducible refine seg_case (fun x h => ?_) (fun h => ?_)
                | with_reducible refine seg_gate (fun h => ?_) (fun h => ?_)
                | with_reducible refine seg_need ?_ ?_
                | with_reducible refine wp_assoc ?_ | with_reducible refine wp_skipS ?_ | with_reducible refine wp_retS ?_ | with_reducible refine wp_exitS ?_ | with_reducible refine wp_dropS (wp_eqT (by simp -dsimp -implicitDefEqProofs [k2, w2, hn, hmin, hk64, hd, hm]; rfl) ?_) | with_reducible refine wp_sealS (by simp -dsimp -implicitDefEqProofs [k2, w2, hn, hmin, hk64, hd, hm]; rfl) ?_ | with_reducible refine wp_seal (by simp -dsimp -implicitDefEqProofs [k2, w2, hn, hmin, hk64, hd, hm]; rfl) ?_ | with_reducible refine wp_blockS ?_ | with_reducible refine wp_skip' ?_ | with_reducible refine wp_ret' ?_ | with_reducible refine wp_exit' ?_ | with_reducible refine wp_drop (wp_eqT (by simp -dsimp -implicitDefEqProofs [k2, w2, hn, hmin, hk64, hd, hm]; rfl) ?_) | with_reducible refine wp_block' ?_
                | with_reducible refine wp_condVS (by simp -dsimp -implicitDefEqProofs [k2, w2, hn, hmin, hk64, hd, hm]; rfl) ?_
                | with_reducible refine wp_condV (by simp -dsimp -implicitDefEqProofs [k2, w2, hn, hmin, hk64, hd, hm]; rfl) ?_
                | with_reducible refine cond_t ?_ | with_reducible refine cond_f ?_ | with_reducible refine cond_v (fun h => ?_) (fun h => ?_)
                | with_reducible refine post_then ?_ | with_reducible refine post_thenE ?_ | with_reducible refine post_thenP ?_ | with_reducible refine post_blkP ?_ | with_reducible refine post_thenR ?_ | with_reducible refine post_blkN ?_ | with_reducible refine post_blkE ?_ | with_reducible refine post_blkF rfl ?_ | with_reducible refine post_blkR ?_
                | with_reducible refine seg_eval (by simp -dsimp -implicitDefEqProofs [k2, w2, hn, hmin, hk64, hd, hm]; rfl) ?_
            all_goals first | omega | exact post_finP [0] _ ⟨[], [0], rfl, rfl, rfl, rfl⟩ rfl | exact post_fin rfl rfl ⟨[], [0], rfl, rfl, rfl, rfl⟩ | trace_state
    have b2 : ((c.toNat : Int) == 2) = false := by rw [beq_eq_false_iff_ne]; omega
    by_cases k3 : c.toNat = 3
    · by_cases hl8 : l.length < 8
      · have e : decF (c :: l) = none := by simp [decF, decG, k3, hl8]
        rw [e] at h2
        cases h2
        have hd : decide (8 ≤ l.length) = false := by simp; omega
        repeat' first
            | with_reducible refine wp_regionS (seg_eval (by simp -dsimp -implicitDefEqProofs [k3, w3, hd]; rfl) ?_)
            | with_reducible refine wp_region (seg_eval (by simp -dsimp -implicitDefEqProofs [k3, w3, hd]; rfl) ?_)
            | with_reducible refine wp_drawsS (seg_eval (by simp -dsimp -implicitDefEqProofs [k3, w3, hd]; rfl) ?_)
            | with_reducible refine wp_draws (seg_eval (by simp -dsimp -implicitDefEqProofs [k3, w3, hd]; rfl) ?_)
            | with_reducible refine seg_fin ?_
            | with_reducible refine seg_pan ?_
            | with_reducible refine seg_both ?_ ?_
            | with_reducible refine seg_case (fun x h => ?_) (fun h => ?_)
            | with_reducible refine seg_gate (fun h => ?_) (fun h => ?_)
            | with_reducible refine seg_need ?_ ?_
            | with_reducible refine wp_assoc ?_ | with_reducible refine wp_skipS ?_ | with_reducible refine wp_retS ?_ | with_reducible refine wp_exitS ?_ | with_reducible refine wp_dropS (wp_eqT (by simp -dsimp -implicitDefEqProofs [k3, w3, hd]; rfl) ?_) | with_reducible refine wp_sealS (by simp -dsimp -implicitDefEqProofs [k3, w3, hd]; rfl) ?_ | with_reducible refine wp_seal (by simp -dsimp -implicitDefEqProofs [k3, w3, hd]; rfl) ?_ | with_reducible refine wp_blockS ?_ | with_reducible refine wp_skip' ?_ | with_reducible refine wp_ret' ?_ | with_reducible refine wp_exit' ?_ | with_reducible refine wp_drop (wp_eqT (by simp -dsimp -implicitDefEqProofs [k3, w3, hd]; rfl) ?_) | with_reducible refine wp_block' ?_
            | with_reducible refine wp_condVS (by simp -dsimp -implicitDefEqProofs [k3, w3, hd]; rfl) ?_
            | with_reducible refine wp_condV (by simp -dsimp -implicitDefEqProofs [k3, w3, hd]; rfl) ?_
            | with_reducible refine cond_t ?_ | with_reducible refine cond_f ?_ | with_reducible refine cond_v (fun h => ?_) (fun h => ?_)
            | with_reducible refine post_then ?_ | with_reducible refine post_thenE ?_ | with_reducible refine post_thenP ?_ | with_reducible refine post_blkP ?_ | with_reducible refine post_thenR ?_ | with_reducible refine post_blkN ?_ | with_reducible refine post_blkE ?_ | with_reducible refine post_blkF rfl ?_ | with_reducible refine post_blkR ?_
            | with_reducible refine seg_eval (by simp -dsimp -implicitDefEqProofs [k3, w3, hd]; rfl) ?_
        all_goals first | omega | exact post_finP [0] _ ⟨[], [0], rfl, rfl, rfl, rfl⟩ rfl | exact post_fin rfl rfl ⟨[], [0], rfl, rfl, rfl, rfl⟩ | trace_state
      · have hd : decide (8 ≤ l.length) = true := by simp; omega
        have hlt : leB (l.take 8) < 18446744073709551616 := by
          have := leB_lt (l.take 8)
          rw [List.length_take, Nat.min_eq_left (by omega)] at this
          omega
        cases hr : rdec (leB (l.take 8)) with
        | none =>
          have e : decF (c :: l) = none := by simp [decF, decG, k3, hl8, hr]
          rw [e] at h2
          cases h2
          repeat' first
              | with_reducible refine wp_regionS (seg_eval (by simp -dsimp -implicitDefEqProofs [k3, w3, hd, hr]; rfl) ?_)
              | with_reducible refine wp_region (seg_eval (by simp -dsimp -implicitDefEqProofs [k3, w3, hd, hr]; rfl) ?_)
              | with_reducible refine wp_drawsS (seg_eval (by simp -dsimp -implicitDefEqProofs [k3, w3, hd, hr]; rfl) ?_)
              | with_reducible refine wp_draws (seg_eval (by simp -dsimp -implicitDefEqProofs [k3, w3, hd, hr]; rfl) ?_)
              | with_reducible refine seg_fin ?_
              | with_reducible refine seg_pan ?_
              | with_reducible refine seg_both ?_ ?_
              | with_reducible refine seg_case (fun x h => ?_) (fun h => ?_)
              | with_reducible refine seg_gate (fun h => ?_) (fun h => ?_)
              | with_reducible refine seg_need ?_ ?_
              | with_reducible refine wp_assoc ?_ | with_reducible refine wp_skipS ?_ | with_reducible refine wp_retS ?_ | with_reducible refine wp_exitS ?_ | with_reducible refine wp_dropS (wp_eqT (by simp -dsimp -implicitDefEqProofs [k3, w3, hd, hr]; rfl) ?_) | with_reducible refine wp_sealS (by simp -dsimp -implicitDefEqProofs [k3, w3, hd, hr]; rfl) ?_ | with_reducible refine wp_seal (by simp -dsimp -implicitDefEqProofs [k3, w3, hd, hr]; rfl) ?_ | with_reducible refine wp_blockS ?_ | with_reducible refine wp_skip' ?_ | with_reducible refine wp_ret' ?_ | with_reducible refine wp_exit' ?_ | with_reducible refine wp_drop (wp_eqT (by simp -dsimp -implicitDefEqProofs [k3, w3, hd, hr]; rfl) ?_) | with_reducible refine wp_block' ?_
              | with_reducible refine wp_condVS (by simp -dsimp -implicitDefEqProofs [k3, w3, hd, hr]; rfl) ?_
              | with_reducible refine wp_condV (by simp -dsimp -implicitDefEqProofs [k3, w3, hd, hr]; rfl) ?_
              | with_reducible refine cond_t ?_ | with_reducible refine cond_f ?_ | with_reducible refine cond_v (fun h => ?_) (fun h => ?_)
              | with_reducible refine post_then ?_ | with_reducible refine post_thenE ?_ | with_reducible refine post_thenP ?_ | with_reducible refine post_blkP ?_ | with_reducible refine post_thenR ?_ | with_reducible refine post_blkN ?_ | with_reducible refine post_blkE ?_ | with_reducible refine post_blkF rfl ?_ | with_reducible refine post_blkR ?_
              | with_reducible refine seg_eval (by simp -dsimp -implicitDefEqProofs [k3, w3, hd, hr]; rfl) ?_
          all_goals first | omega | exact post_finP [0] _ ⟨[], [0], rfl, rfl, rfl, rfl⟩ rfl | exact post_fin rfl rfl ⟨[], [0], rfl, rfl, rfl, rfl⟩ | trace_state
        | some x =>
          obtain ⟨q1, q2, q3⟩ := rdec_some hlt hr
          have hm : may ⟨3, 0, ⟨#[]⟩, x⟩ = true := by simp [may, q2]
          have e : decF (c :: l) = some (⟨3, 0, ⟨#[]⟩, x⟩, l.drop 8) := by simp [decF, decG, k3, hl8, hr, hm]
          rw [e] at h2
          cases h2
          repeat' first
              | with_reducible refine wp_regionS (seg_eval (by simp -dsimp -implicitDefEqProofs [k3, w3, hd, hr, hm]; rfl) ?_)
              | with_reducible refine wp_region (seg_eval (by simp -dsimp -implicitDefEqProofs [k3, w3, hd, hr, hm]; rfl) ?_)
              | with_reducible refine wp_drawsS (seg_eval (by simp -dsimp -implicitDefEqProofs [k3, w3, hd, hr, hm]; rfl) ?_)
              | with_reducible refine wp_draws (seg_eval (by simp -dsimp -implicitDefEqProofs [k3, w3, hd, hr, hm]; rfl) ?_)
              | with_reducible refine seg_fin ?_
              | with_reducible refine seg_pan ?_
              | with_reducible refine seg_both ?_ ?_
              | with_reducible refine seg_case (fun x h => ?_) (fun h => ?_)
              | with_reducible refine seg_gate (fun h => ?_) (fun h => ?_)
              | with_reducible refine seg_need ?_ ?_
              | with_reducible refine wp_assoc ?_ | with_reducible refine wp_skipS ?_ | with_reducible refine wp_retS ?_ | with_reducible refine wp_exitS ?_ | with_reducible refine wp_dropS (wp_eqT (by simp -dsimp -implicitDefEqProofs [k3, w3, hd, hr, hm]; rfl) ?_) | with_reducible refine wp_sealS (by simp -dsimp -implicitDefEqProofs [k3, w3, hd, hr, hm]; rfl) ?_ | with_reducible refine wp_seal (by simp -dsimp -implicitDefEqProofs [k3, w3, hd, hr, hm]; rfl) ?_ | with_reducible refine wp_blockS ?_ | with_reducible refine wp_skip' ?_ | with_reducible refine wp_ret' ?_ | with_reducible refine wp_exit' ?_ | with_reducible refine wp_drop (wp_eqT (by simp -dsimp -implicitDefEqProofs [k3, w3, hd, hr, hm]; rfl) ?_) | with_reducible refine wp_block' ?_
              | with_reducible refine wp_condVS (by simp -dsimp -implicitDefEqProofs [k3, w3, hd, hr, hm]; rfl) ?_
              | with_reducible refine wp_condV (by simp -dsimp -implicitDefEqProofs [k3, w3, hd, hr, hm]; rfl) ?_
              | with_reducible refine cond_t ?_ | with_reducible refine cond_f ?_ | with_reducible refine cond_v (fun h => ?_) (fun h => ?_)
              | with_reducible refine post_then ?_ | with_reducible refine post_thenE ?_ | with_reducible refine post_thenP ?_ | with_reducible refine post_blkP ?_ | with_reducible refine post_thenR ?_ | with_reducible refine post_blkN ?_ | with_reducible refine post_blkE ?_ | with_reducible refine post_blkF rfl ?_ | with_reducible refine post_blkR ?_
              | with_reducible refine seg_eval (by simp -dsimp -implicitDefEqProofs [k3, w3, hd, hr, hm]; rfl) ?_
          all_goals first | omega | exact post_finP [0] _ ⟨[], [0], rfl, rfl, rfl, rfl⟩ rfl | exact post_fin rfl rfl ⟨[], [0], rfl, rfl, rfl, rfl⟩ | trace_state
    have b3 : ((c.toNat : Int) == 3) = false := by rw [beq_eq_false_iff_ne]; omega
    have hm : may ⟨c.toNat, 0, ⟨#[]⟩, 0⟩ = false := by simp [may, b1, b2, b3]
    have e : decF (c :: l) = none := by simp [decF, decG, k1, k2, k3, hm]
    rw [e] at h2
    cases h2
    repeat' first
        | with_reducible refine wp_regionS (seg_eval (by simp -dsimp -implicitDefEqProofs [hc64, b1, b2, b3, hm]; rfl) ?_)
        | with_reducible refine wp_region (seg_eval (by simp -dsimp -implicitDefEqProofs [hc64, b1, b2, b3, hm]; rfl) ?_)
        | with_reducible refine wp_drawsS (seg_eval (by simp -dsimp -implicitDefEqProofs [hc64, b1, b2, b3, hm]; rfl) ?_)
        | with_reducible refine wp_draws (seg_eval (by simp -dsimp -implicitDefEqProofs [hc64, b1, b2, b3, hm]; rfl) ?_)
        | with_reducible refine seg_fin ?_
        | with_reducible refine seg_pan ?_
        | with_reducible refine seg_both ?_ ?_
        | with_reducible refine seg_case (fun x h => ?_) (fun h => ?_)
        | with_reducible refine seg_gate (fun h => ?_) (fun h => ?_)
        | with_reducible refine seg_need ?_ ?_
        | with_reducible refine wp_assoc ?_ | with_reducible refine wp_skipS ?_ | with_reducible refine wp_retS ?_ | with_reducible refine wp_exitS ?_ | with_reducible refine wp_dropS (wp_eqT (by simp -dsimp -implicitDefEqProofs [hc64, b1, b2, b3, hm]; rfl) ?_) | with_reducible refine wp_sealS (by simp -dsimp -implicitDefEqProofs [hc64, b1, b2, b3, hm]; rfl) ?_ | with_reducible refine wp_seal (by simp -dsimp -implicitDefEqProofs [hc64, b1, b2, b3, hm]; rfl) ?_ | with_reducible refine wp_blockS ?_ | with_reducible refine wp_skip' ?_ | with_reducible refine wp_ret' ?_ | with_reducible refine wp_exit' ?_ | with_reducible refine wp_drop (wp_eqT (by simp -dsimp -implicitDefEqProofs [hc64, b1, b2, b3, hm]; rfl) ?_) | with_reducible refine wp_block' ?_
        | with_reducible refine wp_condVS (by simp -dsimp -implicitDefEqProofs [hc64, b1, b2, b3, hm]; rfl) ?_
        | with_reducible refine wp_condV (by simp -dsimp -implicitDefEqProofs [hc64, b1, b2, b3, hm]; rfl) ?_
        | with_reducible refine cond_t ?_ | with_reducible refine cond_f ?_ | with_reducible refine cond_v (fun h => ?_) (fun h => ?_)
        | with_reducible refine post_then ?_ | with_reducible refine post_thenE ?_ | with_reducible refine post_thenP ?_ | with_reducible refine post_blkP ?_ | with_reducible refine post_thenR ?_ | with_reducible refine post_blkN ?_ | with_reducible refine post_blkE ?_ | with_reducible refine post_blkF rfl ?_ | with_reducible refine post_blkR ?_
        | with_reducible refine seg_eval (by simp -dsimp -implicitDefEqProofs [hc64, b1, b2, b3, hm]; rfl) ?_
    all_goals first | omega | exact post_finP [0] _ ⟨[], [0], rfl, rfl, rfl, rfl⟩ rfl | exact post_fin rfl rfl ⟨[], [0], rfl, rfl, rfl, rfl⟩ | trace_state
end Go.Proofs.Ytifchnkhnphibaa.Am
