import Derived.Test.YtbhbpahbopjfeaaF24
namespace Go.Proofs.Ytbhbpahbopjfeaa.Am
set_option linter.unusedSimpArgs false
set_option linter.unusedVariables false
open Go Go.Proofs
attribute [local irreducible] wpA

def E25 : Env := E24b.put 30 [] (fixS [1] spFrD)
theorem E25_ok : EnvOk Try.prog E25 := Env.put_ok _ E24b_ok (frDec_ok.fix _)
attribute [simp] E25 spFrD

theorem ref_decL (b : List UInt8) : refR b = decL b ∧ refE b = decE b := by
  obtain ⟨h1, h2⟩ := ref_dec b
  unfold refR refE decL decE
  rw [h1]
  cases h : refOk b with
  | true => simp [h2 h]
  | false =>
    rw [h] at h1
    simp [Option.isSome_eq_false_iff] at h1
    simp [h1]

set_option maxHeartbeats 8000000 in
theorem frDecR_ok : CallOk Try.prog 31 spFrD := by
  refine ok_31 E25_ok spFrD fun args mem r mem1 h => ?_
  unfold spFrD at h
  split at h
  case h_2 => cases h
  rename_i es
  obtain ⟨b, hb, h2⟩ := Option.bind_eq_some_iff.1 h
  clear h
  have := inB_some es b hb
  subst this
  clear hb
  cases h2
  obtain ⟨q1, q2⟩ := ref_decL b
  unfold ac_31
  cases hd : dec b with
  | none =>
    obtain ⟨e1, e2⟩ := fr_no (frDec_none hd)
    rw [e1, e2]
    have d1 : decL b = [] := by simp [decL, hd]
    have d2 : decE b = 4 := by simp [decE, hd]
    repeat' first
        | with_reducible refine wp_regionS (seg_eval (by simp -dsimp -implicitDefEqProofs [q1, q2, d1, d2]; rfl) ?_)
        | with_reducible refine wp_region (seg_eval (by simp -dsimp -implicitDefEqProofs [q1, q2, d1, d2]; rfl) ?_)
        | with_reducible refine wp_drawsS (seg_eval (by simp -dsimp -implicitDefEqProofs [q1, q2, d1, d2]; rfl) ?_)
        | with_reducible refine wp_draws (seg_eval (by simp -dsimp -implicitDefEqProofs [q1, q2, d1, d2]; rfl) ?_)
        | with_reducible refine seg_fin ?_
        | with_reducible refine seg_pan ?_
        | with_reducible refine seg_both ?_ ?_
        | with_reducible refine seg_case (fun x h => ?_) (fun h => ?_)
        | with_reducible refine seg_gate (fun h => ?_) (fun h => ?_)
        | with_reducible refine seg_need ?_ ?_
        | with_reducible refine wp_assoc ?_ | with_reducible refine wp_skipS ?_ | with_reducible refine wp_retS ?_ | with_reducible refine wp_exitS ?_ | with_reducible refine wp_dropS (wp_eqT (by simp -dsimp -implicitDefEqProofs [q1, q2, d1, d2]; rfl) ?_) | with_reducible refine wp_sealS (by simp -dsimp -implicitDefEqProofs [q1, q2, d1, d2]; rfl) ?_ | with_reducible refine wp_seal (by simp -dsimp -implicitDefEqProofs [q1, q2, d1, d2]; rfl) ?_ | with_reducible refine wp_blockS ?_ | with_reducible refine wp_skip' ?_ | with_reducible refine wp_ret' ?_ | with_reducible refine wp_exit' ?_ | with_reducible refine wp_drop (wp_eqT (by simp -dsimp -implicitDefEqProofs [q1, q2, d1, d2]; rfl) ?_) | with_reducible refine wp_block' ?_
        | with_reducible refine wp_condVS (by simp -dsimp -implicitDefEqProofs [q1, q2, d1, d2]; rfl) ?_
        | with_reducible refine wp_condV (by simp -dsimp -implicitDefEqProofs [q1, q2, d1, d2]; rfl) ?_
        | with_reducible refine cond_t ?_ | with_reducible refine cond_f ?_ | with_reducible refine cond_v (fun h => ?_) (fun h => ?_)
        | with_reducible refine post_then ?_ | with_reducible refine post_thenE ?_ | with_reducible refine post_thenP ?_ | with_reducible refine post_blkP ?_ | with_reducible refine post_thenR ?_ | with_reducible refine post_blkN ?_ | with_reducible refine post_blkE ?_ | with_reducible refine post_blkF rfl ?_ | with_reducible refine post_blkR ?_
        | with_reducible refine seg_eval (by simp -dsimp -implicitDefEqProofs [q1, q2, d1, d2]; rfl) ?_
    all_goals first
      | omega
      | exact post_fin rfl rfl ⟨[], [], rfl, rfl, rfl, rfl⟩
      | trace_state
  | some l =>
    have d1 : decL b = l := by simp [decL, hd]
    have d2 : decE b = 0 := by simp [decE, hd]
    by_cases h5 : l.length = 5
    · obtain ⟨a, b', c, d, e, rfl⟩ := five h5
      have hc := frDec_clip2 hd
      have m0 : min a.num 9999 ≤ 9999 := Nat.min_le_right _ _
      have m1 : min b'.num 99 ≤ 99 := Nat.min_le_right _ _
      have m2 : min c.num 9999 ≤ 9999 := Nat.min_le_right _ _
      have m3 : min d.num 9 ≤ 9 := Nat.min_le_right _ _
      have x0 : (if (9999 : Int) < (a.num : Int) then (9999 : Int) else (a.num : Int)) = ((min a.num 9999 : Nat) : Int) := min_if 9999 a.num
      have x1 : (if (99 : Int) < (b'.num : Int) then (99 : Int) else (b'.num : Int)) = ((min b'.num 99 : Nat) : Int) := min_if 99 b'.num
      have x2 : (if (9999 : Int) < (c.num : Int) then (9999 : Int) else (c.num : Int)) = ((min c.num 9999 : Nat) : Int) := min_if 9999 c.num
      have x3 : (if (9 : Int) < (d.num : Int) then (9 : Int) else (d.num : Int)) = ((min d.num 9 : Nat) : Int) := min_if 9 d.num
      unfold clip2 at hc
      generalize min a.num 9999 = k0 at m0 x0 hc
      generalize min b'.num 99 = k1 at m1 x1 hc
      generalize min c.num 9999 = k2 at m2 x2 hc
      generalize min d.num 9 = k3 at m3 x3 hc
      have w0 : IntKind.wrap .i64 (k0 : Int) = (k0 : Int) := IntWalk.i64_in _ (by omega)
      have w1 : IntKind.wrap .u8 (k1 : Int) = (k1 : Int) := IntWalk.u8_in _ (by omega)
      have w2 : IntKind.wrap .i64 (k2 : Int) = (k2 : Int) := IntWalk.i64_in _ (by omega)
      have w3 : IntKind.wrap .i64 (k3 : Int) = (k3 : Int) := IntWalk.i64_in _ (by omega)
      generalize hf : Frm.mk k0 k1 k2 k3 e.text = f at hc
      have hbl := (enc_dec hd).2.1
      cases hr : rightB f with
      | false =>
        rw [hr] at hc
        simp only [Bool.false_eq_true, false_and, if_false] at hc
        obtain ⟨e1, e2⟩ := fr_no hc
        rw [e1, e2]
        have g1 : frB f = [] := by simp [frB, hr]
        have g2 : frE f = 2 := by simp [frE, hr]
        repeat' first
            | with_reducible refine wp_regionS (seg_eval (by simp -dsimp -implicitDefEqProofs [q1, q2, d1, d2, x0, x1, x2, x3, w0, w1, w2, w3, hf, g1, g2]; rfl) ?_)
            | with_reducible refine wp_region (seg_eval (by simp -dsimp -implicitDefEqProofs [q1, q2, d1, d2, x0, x1, x2, x3, w0, w1, w2, w3, hf, g1, g2]; rfl) ?_)
            | with_reducible refine wp_drawsS (seg_eval (by simp -dsimp -implicitDefEqProofs [q1, q2, d1, d2, x0, x1, x2, x3, w0, w1, w2, w3, hf, g1, g2]; rfl) ?_)
            | with_reducible refine wp_draws (seg_eval (by simp -dsimp -implicitDefEqProofs [q1, q2, d1, d2, x0, x1, x2, x3, w0, w1, w2, w3, hf, g1, g2]; rfl) ?_)
            | with_reducible refine seg_fin ?_
            | with_reducible refine seg_pan ?_
            | with_reducible refine seg_both ?_ ?_
            | with_reducible refine seg_case (fun x h => ?_) (fun h => ?_)
            | with_reducible refine seg_gate (fun h => ?_) (fun h => ?_)
            | with_reducible refine seg_need ?_ ?_
            | with_reducible refine wp_assoc ?_ | with_reducible refine wp_skipS ?_ | with_reducible refine wp_retS ?_ | with_reducible refine wp_exitS ?_ | with_reducible refine wp_dropS (wp_eqT (by simp -dsimp -implicitDefEqProofs [q1, q2, d1, d2, x0, x1, x2, x3, w0, w1, w2, w3, hf, g1, g2]; rfl) ?_) | with_reducible refine wp_sealS (by simp -dsimp -implicitDefEqProofs [q1, q2, d1, d2, x0, x1, x2, x3, w0, w1, w2, w3, hf, g1, g2]; rfl) ?_ | with_reducible refine wp_seal (by simp -dsimp -implicitDefEqProofs [q1, q2, d1, d2, x0, x1, x2, x3, w0, w1, w2, w3, hf, g1, g2]; rfl) ?_ | with_reducible refine wp_blockS ?_ | with_reducible refine wp_skip' ?_ | with_reducible refine wp_ret' ?_ | with_reducible refine wp_exit' ?_ | with_reducible refine wp_drop (wp_eqT (by simp -dsimp -implicitDefEqProofs [q1, q2, d1, d2, x0, x1, x2, x3, w0, w1, w2, w3, hf, g1, g2]; rfl) ?_) | with_reducible refine wp_block' ?_
            | with_reducible refine wp_condVS (by simp -dsimp -implicitDefEqProofs [q1, q2, d1, d2, x0, x1, x2, x3, w0, w1, w2, w3, hf, g1, g2]; rfl) ?_
            | with_reducible refine wp_condV (by simp -dsimp -implicitDefEqProofs [q1, q2, d1, d2, x0, x1, x2, x3, w0, w1, w2, w3, hf, g1, g2]; rfl) ?_
            | with_reducible refine cond_t ?_ | with_reducible refine cond_f ?_ | with_reducible refine cond_v (fun h => ?_) (fun h => ?_)
            | with_reducible refine post_then ?_ | with_reducible refine post_thenE ?_ | with_reducible refine post_thenP ?_ | with_reducible refine post_blkP ?_ | with_reducible refine post_thenR ?_ | with_reducible refine post_blkN ?_ | with_reducible refine post_blkE ?_ | with_reducible refine post_blkF rfl ?_ | with_reducible refine post_blkR ?_
            | with_reducible refine seg_eval (by simp -dsimp -implicitDefEqProofs [q1, q2, d1, d2, x0, x1, x2, x3, w0, w1, w2, w3, hf, g1, g2]; rfl) ?_
        all_goals first
          | omega
          | exact post_fin rfl rfl ⟨[], [], rfl, rfl, rfl, rfl⟩
          | trace_state
      | true =>
        have g1 : frB f = enc (frmL f) := by simp [frB, hr]
        have g2 : frE f = 0 := by simp [frE, hr]
        by_cases he : enc (frmL f) = b
        · rw [if_pos ⟨hr, he⟩] at hc
          obtain ⟨e1, e2⟩ := fr_yes hc
          rw [e1, e2]
          have hne : ((⟨b.toArray⟩ : ByteArray) != ⟨b.toArray⟩) = false := by rw [bne, (beq_bytes _ _).2 rfl]; rfl
          repeat' first
              | with_reducible refine wp_regionS (seg_eval (by simp -dsimp -implicitDefEqProofs [q1, q2, d1, d2, x0, x1, x2, x3, w0, w1, w2, w3, hf, g1, g2, he, hne]; rfl) ?_)
              | with_reducible refine wp_region (seg_eval (by simp -dsimp -implicitDefEqProofs [q1, q2, d1, d2, x0, x1, x2, x3, w0, w1, w2, w3, hf, g1, g2, he, hne]; rfl) ?_)
              | with_reducible refine wp_drawsS (seg_eval (by simp -dsimp -implicitDefEqProofs [q1, q2, d1, d2, x0, x1, x2, x3, w0, w1, w2, w3, hf, g1, g2, he, hne]; rfl) ?_)
              | with_reducible refine wp_draws (seg_eval (by simp -dsimp -implicitDefEqProofs [q1, q2, d1, d2, x0, x1, x2, x3, w0, w1, w2, w3, hf, g1, g2, he, hne]; rfl) ?_)
              | with_reducible refine seg_fin ?_
              | with_reducible refine seg_pan ?_
              | with_reducible refine seg_both ?_ ?_
              | with_reducible refine seg_case (fun x h => ?_) (fun h => ?_)
              | with_reducible refine seg_gate (fun h => ?_) (fun h => ?_)
              | with_reducible refine seg_need ?_ ?_
              | with_reducible refine wp_assoc ?_ | with_reducible refine wp_skipS ?_ | with_reducible refine wp_retS ?_ | with_reducible refine wp_exitS ?_ | with_reducible refine wp_dropS (wp_eqT (by simp -dsimp -implicitDefEqProofs [q1, q2, d1, d2, x0, x1, x2, x3, w0, w1, w2, w3, hf, g1, g2, he, hne]; rfl) ?_) | with_reducible refine wp_sealS (by simp -dsimp -implicitDefEqProofs [q1, q2, d1, d2, x0, x1, x2, x3, w0, w1, w2, w3, hf, g1, g2, he, hne]; rfl) ?_ | with_reducible refine wp_seal (by simp -dsimp -implicitDefEqProofs [q1, q2, d1, d2, x0, x1, x2, x3, w0, w1, w2, w3, hf, g1, g2, he, hne]; rfl) ?_ | with_reducible refine wp_blockS ?_ | with_reducible refine wp_skip' ?_ | with_reducible refine wp_ret' ?_ | with_reducible refine wp_exit' ?_ | with_reducible refine wp_drop (wp_eqT (by simp -dsimp -implicitDefEqProofs [q1, q2, d1, d2, x0, x1, x2, x3, w0, w1, w2, w3, hf, g1, g2, he, hne]; rfl) ?_) | with_reducible refine wp_block' ?_
              | with_reducible refine wp_condVS (by simp -dsimp -implicitDefEqProofs [q1, q2, d1, d2, x0, x1, x2, x3, w0, w1, w2, w3, hf, g1, g2, he, hne]; rfl) ?_
              | with_reducible refine wp_condV (by simp -dsimp -implicitDefEqProofs [q1, q2, d1, d2, x0, x1, x2, x3, w0, w1, w2, w3, hf, g1, g2, he, hne]; rfl) ?_
              | with_reducible refine cond_t ?_ | with_reducible refine cond_f ?_ | with_reducible refine cond_v (fun h => ?_) (fun h => ?_)
              | with_reducible refine post_then ?_ | with_reducible refine post_thenE ?_ | with_reducible refine post_thenP ?_ | with_reducible refine post_blkP ?_ | with_reducible refine post_thenR ?_ | with_reducible refine post_blkN ?_ | with_reducible refine post_blkE ?_ | with_reducible refine post_blkF rfl ?_ | with_reducible refine post_blkR ?_
              | with_reducible refine seg_eval (by simp -dsimp -implicitDefEqProofs [q1, q2, d1, d2, x0, x1, x2, x3, w0, w1, w2, w3, hf, g1, g2, he, hne]; rfl) ?_
          all_goals first
            | omega
            | exact post_fin rfl rfl ⟨[], [], rfl, rfl, by subst hf; rfl, rfl⟩
            | trace_state
        · rw [if_neg (fun h => he h.2)] at hc
          obtain ⟨e1, e2⟩ := fr_no hc
          rw [e1, e2]
          have hne : ((⟨(enc (frmL f)).toArray⟩ : ByteArray) != ⟨b.toArray⟩) = true := by
            rw [bne, Bool.not_eq_true', ← Bool.not_eq_true, beq_bytes]
            intro h
            have := congrArg tb h
            rw [tb_mk, tb_mk] at this
            exact he this
          repeat' first
              | with_reducible refine wp_regionS (seg_eval (by simp -dsimp -implicitDefEqProofs [q1, q2, d1, d2, x0, x1, x2, x3, w0, w1, w2, w3, hf, g1, g2, hne]; rfl) ?_)
              | with_reducible refine wp_region (seg_eval (by simp -dsimp -implicitDefEqProofs [q1, q2, d1, d2, x0, x1, x2, x3, w0, w1, w2, w3, hf, g1, g2, hne]; rfl) ?_)
              | with_reducible refine wp_drawsS (seg_eval (by simp -dsimp -implicitDefEqProofs [q1, q2, d1, d2, x0, x1, x2, x3, w0, w1, w2, w3, hf, g1, g2, hne]; rfl) ?_)
              | with_reducible refine wp_draws (seg_eval (by simp -dsimp -implicitDefEqProofs [q1, q2, d1, d2, x0, x1, x2, x3, w0, w1, w2, w3, hf, g1, g2, hne]; rfl) ?_)
              | with_reducible refine seg_fin ?_
              | with_reducible refine seg_pan ?_
              | with_reducible refine seg_both ?_ ?_
              | with_reducible refine seg_case (fun x h => ?_) (fun h => ?_)
              | with_reducible refine seg_gate (fun h => ?_) (fun h => ?_)
              | with_reducible refine seg_need ?_ ?_
              | with_reducible refine wp_assoc ?_ | with_reducible refine wp_skipS ?_ | with_reducible refine wp_retS ?_ | with_reducible refine wp_exitS ?_ | with_reducible refine wp_dropS (wp_eqT (by simp -dsimp -implicitDefEqProofs [q1, q2, d1, d2, x0, x1, x2, x3, w0, w1, w2, w3, hf, g1, g2, hne]; rfl) ?_) | with_reducible refine wp_sealS (by simp -dsimp -implicitDefEqProofs [q1, q2, d1, d2, x0, x1, x2, x3, w0, w1, w2, w3, hf, g1, g2, hne]; rfl) ?_ | with_reducible refine wp_seal (by simp -dsimp -implicitDefEqProofs [q1, q2, d1, d2, x0, x1, x2, x3, w0, w1, w2, w3, hf, g1, g2, hne]; rfl) ?_ | with_reducible refine wp_blockS ?_ | with_reducible refine wp_skip' ?_ | with_reducible refine wp_ret' ?_ | with_reducible refine wp_exit' ?_ | with_reducible refine wp_drop (wp_eqT (by simp -dsimp -implicitDefEqProofs [q1, q2, d1, d2, x0, x1, x2, x3, w0, w1, w2, w3, hf, g1, g2, hne]; rfl) ?_) | with_reducible refine wp_block' ?_
              | with_reducible refine wp_condVS (by simp -dsimp -implicitDefEqProofs [q1, q2, d1, d2, x0, x1, x2, x3, w0, w1, w2, w3, hf, g1, g2, hne]; rfl) ?_
              | with_reducible refine wp_condV (by simp -dsimp -implicitDefEqProofs [q1, q2, d1, d2, x0, x1, x2, x3, w0, w1, w2, w3, hf, g1, g2, hne]; rfl) ?_
              | with_reducible refine cond_t ?_ | with_reducible refine cond_f ?_ | with_reducible refine cond_v (fun h => ?_) (fun h => ?_)
              | with_reducible refine post_then ?_ | with_reducible refine post_thenE ?_ | with_reducible refine post_thenP ?_ | with_reducible refine post_blkP ?_ | with_reducible refine post_thenR ?_ | with_reducible refine post_blkN ?_ | with_reducible refine post_blkE ?_ | with_reducible refine post_blkF rfl ?_ | with_reducible refine post_blkR ?_
              | with_reducible refine seg_eval (by simp -dsimp -implicitDefEqProofs [q1, q2, d1, d2, x0, x1, x2, x3, w0, w1, w2, w3, hf, g1, g2, hne]; rfl) ?_
          all_goals first
            | omega
            | exact post_fin rfl rfl ⟨[], [], rfl, rfl, rfl, rfl⟩
            | trace_state
    · obtain ⟨e1, e2⟩ := fr_no (frDec_not5 hd h5)
      rw [e1, e2]
      have hn5 : ((l.length : Int) != 5) = true := by rw [bne_iff_ne]; omega
      repeat' first
          | with_reducible refine wp_regionS (seg_eval (by simp -dsimp -implicitDefEqProofs [q1, q2, d1, d2, hn5]; rfl) ?_)
          | with_reducible refine wp_region (seg_eval (by simp -dsimp -implicitDefEqProofs [q1, q2, d1, d2, hn5]; rfl) ?_)
          | with_reducible refine wp_drawsS (seg_eval (by simp -dsimp -implicitDefEqProofs [q1, q2, d1, d2, hn5]; rfl) ?_)
          | with_reducible refine wp_draws (seg_eval (by simp -dsimp -implicitDefEqProofs [q1, q2, d1, d2, hn5]; rfl) ?_)
          | with_reducible refine seg_fin ?_
          | with_reducible refine seg_pan ?_
          | with_reducible refine seg_both ?_ ?_
          | with_reducible refine seg_case (fun x h => ?_) (fun h => ?_)
          | with_reducible refine seg_gate (fun h => ?_) (fun h => ?_)
          | with_reducible refine seg_need ?_ ?_
          | with_reducible refine wp_assoc ?_ | with_reducible refine wp_skipS ?_ | with_reducible refine wp_retS ?_ | with_reducible refine wp_exitS ?_ | with_reducible refine wp_dropS (wp_eqT (by simp -dsimp -implicitDefEqProofs [q1, q2, d1, d2, hn5]; rfl) ?_) | with_reducible refine wp_sealS (by simp -dsimp -implicitDefEqProofs [q1, q2, d1, d2, hn5]; rfl) ?_ | with_reducible refine wp_seal (by simp -dsimp -implicitDefEqProofs [q1, q2, d1, d2, hn5]; rfl) ?_ | with_reducible refine wp_blockS ?_ | with_reducible refine wp_skip' ?_ | with_reducible refine wp_ret' ?_ | with_reducible refine wp_exit' ?_ | with_reducible refine wp_drop (wp_eqT (by simp -dsimp -implicitDefEqProofs [q1, q2, d1, d2, hn5]; rfl) ?_) | with_reducible refine wp_block' ?_
          | with_reducible refine wp_condVS (by simp -dsimp -implicitDefEqProofs [q1, q2, d1, d2, hn5]; rfl) ?_
          | with_reducible refine wp_condV (by simp -dsimp -implicitDefEqProofs [q1, q2, d1, d2, hn5]; rfl) ?_
          | with_reducible refine cond_t ?_ | with_reducible refine cond_f ?_ | with_reducible refine cond_v (fun h => ?_) (fun h => ?_)
          | with_reducible refine post_then ?_ | with_reducible refine post_thenE ?_ | with_reducible refine post_thenP ?_ | with_reducible refine post_blkP ?_ | with_reducible refine post_thenR ?_ | with_reducible refine post_blkN ?_ | with_reducible refine post_blkE ?_ | with_reducible refine post_blkF rfl ?_ | with_reducible refine post_blkR ?_
          | with_reducible refine seg_eval (by simp -dsimp -implicitDefEqProofs [q1, q2, d1, d2, hn5]; rfl) ?_
      all_goals first
        | omega
        | exact post_fin rfl rfl ⟨[], [], rfl, rfl, rfl, rfl⟩
        | trace_state

def E25b : Env := E25.put 31 [] (fixS [1] spFrD)
theorem E25b_ok : EnvOk Try.prog E25b := Env.put_ok _ E25_ok (frDecR_ok.fix _)
attribute [simp] E25b

/-! ### What the document fixes -/
def alF : Frm := ⟨0, 1, 2, 2, ⟨#[120]⟩⟩
theorem alF_enc : frE alF = 0 ∧ frB alF = [5, 1, 0, 1, 1, 1, 1, 1, 2, 1, 1, 2, 2, 1, 1, 120] := by
  have hr : rightB alF = true := by decide
  have n1 : nlen 1 = 1 := nlen_eq (by decide) (by decide)
  have n2 : nlen 2 = 1 := nlen_eq (by decide) (by decide)
  have n0 : nlen 0 = 0 := nlen_zero
  refine ⟨by simp [frE, hr], ?_⟩
  unfold frB
  rw [if_pos hr, (encE_zero (frm_enc hr)).2.2.2]
  have h2 : ByteArray.size ⟨#[120]⟩ = 1 := rfl
  simp only [encAll, frmL, flatE, encF, nF, tF, alF, numB, Int.toNat_zero]
  simp only [show Int.toNat 1 = 1 from rfl, show Int.toNat 2 = 2 from rfl, n0, n1, n2, h2]
  rfl
theorem alF_dec : frF [5, 1, 0, 1, 1, 1, 1, 1, 2, 1, 1, 2, 2, 1, 1, 120] = alF ∧ frG [5, 1, 0, 1, 1, 1, 1, 1, 2, 1, 1, 2, 2, 1, 1, 120] = 0 ∧ frG [1, 0, 1, 1, 1, 1, 1, 2, 1, 1, 2, 2, 1, 1, 120] = 4 := by
  have hr : rightB alF = true := by decide
  have e := frDec_enc hr (by decide)
  have e2 := alF_enc.2
  unfold frB at e2
  rw [if_pos hr] at e2
  rw [e2] at e
  have hd : dec [1, 0, 1, 1, 1, 1, 1, 2, 1, 1, 2, 2, 1, 1, 120] = none := by rfl
  exact ⟨(fr_yes e).1, (fr_yes e).2, (fr_no (frDec_none hd)).2⟩

set_option maxHeartbeats 4000000 in
theorem alive17_ok : CallOk Try.prog 27 spTrue := by
  refine ok_27 E25b_ok spTrue fun args mem r mem1 h => ?_
  unfold spTrue at h
  split at h
  case h_2 => cases h
  cases h
  have e1 : (⟨0, 1, 2, 2, ⟨#[120]⟩⟩ : Frm) = alF := rfl
  have hr : rightB alF = true := by decide
  have hs : ((⟨#[5, 1, 0, 1, 1, 1, 1, 1, 2, 1, 1, 2, 2, 1, 1, 120]⟩ : ByteArray) == ⟨#[5, 1, 0, 1, 1, 1, 1, 1, 2, 1, 1, 2, 2, 1, 1, 120]⟩) = true := (beq_bytes _ _).2 rfl
  have hs2 : ((⟨#[120]⟩ : ByteArray) == ⟨#[120]⟩) = true := by decide
  have hbt : ∀ l : List UInt8, (bv l).tail = bv l.tail := fun l => by cases l <;> rfl
  have p1 : alF.view = 0 := rfl
  have p2 : alF.from_ = 1 := rfl
  have p3 : alF.seq = 2 := rfl
  have p4 : alF.kind = 2 := rfl
  have p5 : alF.body = ⟨#[120]⟩ := rfl
  unfold ac_27
  repeat' first
      | with_reducible refine wp_regionS (seg_eval (by simp -dsimp -implicitDefEqProofs [avF, e1, hr, alF_enc.1, alF_enc.2, alF_dec.1, alF_dec.2.1, alF_dec.2.2, hs, hs2, p1, p2, p3, p4, p5, eqCells, hbt]; rfl) ?_)
      | with_reducible refine wp_region (seg_eval (by simp -dsimp -implicitDefEqProofs [avF, e1, hr, alF_enc.1, alF_enc.2, alF_dec.1, alF_dec.2.1, alF_dec.2.2, hs, hs2, p1, p2, p3, p4, p5, eqCells, hbt]; rfl) ?_)
      | with_reducible refine wp_drawsS (seg_eval (by simp -dsimp -implicitDefEqProofs [avF, e1, hr, alF_enc.1, alF_enc.2, alF_dec.1, alF_dec.2.1, alF_dec.2.2, hs, hs2, p1, p2, p3, p4, p5, eqCells, hbt]; rfl) ?_)
      | with_reducible refine wp_draws (seg_eval (by simp -dsimp -implicitDefEqProofs [avF, e1, hr, alF_enc.1, alF_enc.2, alF_dec.1, alF_dec.2.1, alF_dec.2.2, hs, hs2, p1, p2, p3, p4, p5, eqCells, hbt]; rfl) ?_)
      | with_reducible refine seg_fin ?_
      | with_reducible refine seg_pan ?_
      | with_reducible refine seg_both ?_ ?_
      | with_reducible refine seg_case (fun x h => ?_) (fun h => ?_)
      | with_reducible refine seg_gate (fun h => ?_) (fun h => ?_)
      | with_reducible refine seg_need ?_ ?_
      | with_reducible refine wp_assoc ?_ | with_reducible refine wp_skipS ?_ | with_reducible refine wp_retS ?_ | with_reducible refine wp_exitS ?_ | with_reducible refine wp_dropS (wp_eqT (by simp -dsimp -implicitDefEqProofs [avF, e1, hr, alF_enc.1, alF_enc.2, alF_dec.1, alF_dec.2.1, alF_dec.2.2, hs, hs2, p1, p2, p3, p4, p5, eqCells, hbt]; rfl) ?_) | with_reducible refine wp_sealS (by simp -dsimp -implicitDefEqProofs [avF, e1, hr, alF_enc.1, alF_enc.2, alF_dec.1, alF_dec.2.1, alF_dec.2.2, hs, hs2, p1, p2, p3, p4, p5, eqCells, hbt]; rfl) ?_ | with_reducible refine wp_seal (by simp -dsimp -implicitDefEqProofs [avF, e1, hr, alF_enc.1, alF_enc.2, alF_dec.1, alF_dec.2.1, alF_dec.2.2, hs, hs2, p1, p2, p3, p4, p5, eqCells, hbt]; rfl) ?_ | with_reducible refine wp_blockS ?_ | with_reducible refine wp_skip' ?_ | with_reducible refine wp_ret' ?_ | with_reducible refine wp_exit' ?_ | with_reducible refine wp_drop (wp_eqT (by simp -dsimp -implicitDefEqProofs [avF, e1, hr, alF_enc.1, alF_enc.2, alF_dec.1, alF_dec.2.1, alF_dec.2.2, hs, hs2, p1, p2, p3, p4, p5, eqCells, hbt]; rfl) ?_) | with_reducible refine wp_block' ?_
      | with_reducible refine wp_condVS (by simp -dsimp -implicitDefEqProofs [avF, e1, hr, alF_enc.1, alF_enc.2, alF_dec.1, alF_dec.2.1, alF_dec.2.2, hs, hs2, p1, p2, p3, p4, p5, eqCells, hbt]; rfl) ?_
      | with_reducible refine wp_condV (by simp -dsimp -implicitDefEqProofs [avF, e1, hr, alF_enc.1, alF_enc.2, alF_dec.1, alF_dec.2.1, alF_dec.2.2, hs, hs2, p1, p2, p3, p4, p5, eqCells, hbt]; rfl) ?_
      | with_reducible refine cond_t ?_ | with_reducible refine cond_f ?_ | with_reducible refine cond_v (fun h => ?_) (fun h => ?_)
      | with_reducible refine post_then ?_ | with_reducible refine post_thenE ?_ | with_reducible refine post_thenP ?_ | with_reducible refine post_blkP ?_ | with_reducible refine post_thenR ?_ | with_reducible refine post_blkN ?_ | with_reducible refine post_blkE ?_ | with_reducible refine post_blkF rfl ?_ | with_reducible refine post_blkR ?_
      | with_reducible refine seg_eval (by simp -dsimp -implicitDefEqProofs [avF, e1, hr, alF_enc.1, alF_enc.2, alF_dec.1, alF_dec.2.1, alF_dec.2.2, hs, hs2, p1, p2, p3, p4, p5, eqCells, hbt]; rfl) ?_
  all_goals first
    | omega
    | exact post_fin rfl rfl ⟨[], [], rfl, rfl, rfl, rfl⟩
    | trace_state

def E25c : Env := E25b.put 27 [] spTrue
theorem E25c_ok : EnvOk Try.prog E25c := Env.put_ok _ E25b_ok alive17_ok
attribute [simp] E25c
end Go.Proofs.Ytbhbpahbopjfeaa.Am
