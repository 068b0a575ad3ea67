import Derived.Test.YtbhbpahbopjfeaaF26
namespace Go.Proofs.Ytbhbpahbopjfeaa.Am
set_option linter.unusedSimpArgs false
set_option linter.unusedVariables false
open Go Go.Proofs
attribute [local irreducible] wpA

def spFrKinds : Spec
  | [.agg [.v (.int .i64 _), .v (.int .u8 from_), .v (.int .i64 _), .v (.int .i64 _), .v (.string _)], .v (.int .u8 at_)], [] =>
    if 0 ≤ from_ ∧ 0 ≤ at_ ∧ at_ < 256 then some (.ret (.v (.bool true)), []) else none
  | _, _ => none

set_option maxHeartbeats 16000000 in
theorem frameKinds_ok : CallOk Try.prog 13 spFrKinds := by
  refine ok_13 E25c_ok spFrKinds fun args mem r mem1 h => ?_
  unfold spFrKinds at h
  split at h
  case h_2 => cases h
  rename_i view from_ seq kind body c
  obtain ⟨⟨hx, hc0, hc1⟩, h3⟩ := if_some h
  clear h
  cases h3
  obtain ⟨c, rfl⟩ := Int.eq_ofNat_of_zero_le hc0
  have hmod : ((c : Int).tmod 5) = ((c % 5 : Nat) : Int) := rfl
  have hmod' : ((c : Int) % 5) = ((c % 5 : Nat) : Int) := by omega
  have hml : c % 5 < 5 := Nat.mod_lt _ (by omega)
  generalize c % 5 = m at hmod hmod' hml
  generalize hf : Frm.mk view from_ seq kind body = f
  have p1 : f.view = view := by subst hf; rfl
  have p2 : f.from_ = from_ := by subst hf; rfl
  have p3 : f.seq = seq := by subst hf; rfl
  have p4 : f.kind = kind := by subst hf; rfl
  have p5 : f.body = body := by subst hf; rfl
  have wu : 0 ≤ IntKind.wrap .u8 (from_ + 1) := by rw [IntKind.wrap_u8]; omega
  have h58 : IntKind.wrap .u8 (m : Int) = (m : Int) := IntWalk.u8_in _ (by omega)
  by_cases hbz : 1200 < body.size
  · have hd : decide (1200 < (body.size : Int)) = true := by rw [decide_eq_true_eq]; omega
    have hd' : decide (1200 < body.size) = true := by rw [decide_eq_true_eq]; omega
    unfold ac_13
    repeat' first
        | with_reducible refine wp_regionS (seg_eval (by simp -dsimp -implicitDefEqProofs [avF, hf, hx, hd, hd']; rfl) ?_)
        | with_reducible refine wp_region (seg_eval (by simp -dsimp -implicitDefEqProofs [avF, hf, hx, hd, hd']; rfl) ?_)
        | with_reducible refine wp_drawsS (seg_eval (by simp -dsimp -implicitDefEqProofs [avF, hf, hx, hd, hd']; rfl) ?_)
        | with_reducible refine wp_draws (seg_eval (by simp -dsimp -implicitDefEqProofs [avF, hf, hx, hd, hd']; rfl) ?_)
        | with_reducible refine seg_fin ?_
        | with_reducible refine seg_pan ?_
        | with_reducible refine seg_both ?_ ?_
        | with_reducible refine seg_case (fun x h => ?_) (fun h => ?_)
        | with_reducible refine seg_gate (fun h => ?_) (fun h => ?_)
        | with_reducible refine seg_need ?_ ?_
        | with_reducible refine wp_assoc ?_ | with_reducible refine wp_skipS ?_ | with_reducible refine wp_retS ?_ | with_reducible refine wp_exitS ?_ | with_reducible refine wp_dropS (wp_eqT (by simp -dsimp -implicitDefEqProofs [avF, hf, hx, hd, hd']; rfl) ?_) | with_reducible refine wp_sealS (by simp -dsimp -implicitDefEqProofs [avF, hf, hx, hd, hd']; rfl) ?_ | with_reducible refine wp_seal (by simp -dsimp -implicitDefEqProofs [avF, hf, hx, hd, hd']; rfl) ?_ | with_reducible refine wp_blockS ?_ | with_reducible refine wp_skip' ?_ | with_reducible refine wp_ret' ?_ | with_reducible refine wp_exit' ?_ | with_reducible refine wp_drop (wp_eqT (by simp -dsimp -implicitDefEqProofs [avF, hf, hx, hd, hd']; rfl) ?_) | with_reducible refine wp_block' ?_
        | with_reducible refine wp_condVS (by simp -dsimp -implicitDefEqProofs [avF, hf, hx, hd, hd']; rfl) ?_
        | with_reducible refine wp_condV (by simp -dsimp -implicitDefEqProofs [avF, hf, hx, hd, hd']; rfl) ?_
        | with_reducible refine cond_t ?_ | with_reducible refine cond_f ?_ | with_reducible refine cond_v (fun h => ?_) (fun h => ?_)
        | with_reducible refine post_then ?_ | with_reducible refine post_thenE ?_ | with_reducible refine post_thenP ?_ | with_reducible refine post_blkP ?_ | with_reducible refine post_thenR ?_ | with_reducible refine post_blkN ?_ | with_reducible refine post_blkE ?_ | with_reducible refine post_blkF rfl ?_ | with_reducible refine post_blkR ?_
        | with_reducible refine seg_eval (by simp -dsimp -implicitDefEqProofs [avF, hf, hx, hd, hd']; rfl) ?_
    all_goals first
      | omega
      | exact post_fin rfl rfl ⟨[], [], rfl, rfl, rfl, rfl⟩
      | trace_state
  have hd : decide (1200 < (body.size : Int)) = false := by rw [decide_eq_false_iff_not]; omega
  have hd' : decide (1200 < body.size) = false := by rw [decide_eq_false_iff_not]; omega
  have hsz1 : body.size + ByteArray.size ⟨#[120]⟩ ≤ 9223372036854775807 := by
    have h1 : ByteArray.size ⟨#[120]⟩ = 1 := rfl
    omega
  unfold ac_13
  have hm5 : m = 0 ∨ m = 1 ∨ m = 2 ∨ m = 3 ∨ m = 4 := by omega
  cases hr : rightB f with
  | false =>
    have e1 : frB f = [] := by simp [frB, hr]
    have e2 : frE f = 2 := by simp [frE, hr]
    rcases hm5 with rfl | rfl | rfl | rfl | rfl
    all_goals
      repeat' first
          | with_reducible refine wp_regionS (seg_eval (by simp -dsimp -implicitDefEqProofs [avF, hf, hx, hd, hd', e1, e2, hr, hmod, hmod', wu, h58]; rfl) ?_)
          | with_reducible refine wp_region (seg_eval (by simp -dsimp -implicitDefEqProofs [avF, hf, hx, hd, hd', e1, e2, hr, hmod, hmod', wu, h58]; rfl) ?_)
          | with_reducible refine wp_drawsS (seg_eval (by simp -dsimp -implicitDefEqProofs [avF, hf, hx, hd, hd', e1, e2, hr, hmod, hmod', wu, h58]; rfl) ?_)
          | with_reducible refine wp_draws (seg_eval (by simp -dsimp -implicitDefEqProofs [avF, hf, hx, hd, hd', e1, e2, hr, hmod, hmod', wu, h58]; rfl) ?_)
          | with_reducible refine seg_fin ?_
          | with_reducible refine seg_pan ?_
          | with_reducible refine seg_both ?_ ?_
          | with_reducible refine seg_case (fun x h => ?_) (fun h => ?_)
          | with_reducible refine seg_gate (fun h => ?_) (fun h => ?_)
          | with_reducible refine seg_need ?_ ?_
          | with_reducible refine wp_assoc ?_ | with_reducible refine wp_skipS ?_ | with_reducible refine wp_retS ?_ | with_reducible refine wp_exitS ?_ | with_reducible refine wp_dropS (wp_eqT (by simp -dsimp -implicitDefEqProofs [avF, hf, hx, hd, hd', e1, e2, hr, hmod, hmod', wu, h58]; rfl) ?_) | with_reducible refine wp_sealS (by simp -dsimp -implicitDefEqProofs [avF, hf, hx, hd, hd', e1, e2, hr, hmod, hmod', wu, h58]; rfl) ?_ | with_reducible refine wp_seal (by simp -dsimp -implicitDefEqProofs [avF, hf, hx, hd, hd', e1, e2, hr, hmod, hmod', wu, h58]; rfl) ?_ | with_reducible refine wp_blockS ?_ | with_reducible refine wp_skip' ?_ | with_reducible refine wp_ret' ?_ | with_reducible refine wp_exit' ?_ | with_reducible refine wp_drop (wp_eqT (by simp -dsimp -implicitDefEqProofs [avF, hf, hx, hd, hd', e1, e2, hr, hmod, hmod', wu, h58]; rfl) ?_) | with_reducible refine wp_block' ?_
          | with_reducible refine wp_condVS (by simp -dsimp -implicitDefEqProofs [avF, hf, hx, hd, hd', e1, e2, hr, hmod, hmod', wu, h58]; rfl) ?_
          | with_reducible refine wp_condV (by simp -dsimp -implicitDefEqProofs [avF, hf, hx, hd, hd', e1, e2, hr, hmod, hmod', wu, h58]; rfl) ?_
          | with_reducible refine cond_t ?_ | with_reducible refine cond_f ?_ | with_reducible refine cond_v (fun h => ?_) (fun h => ?_)
          | with_reducible refine post_then ?_ | with_reducible refine post_thenE ?_ | with_reducible refine post_thenP ?_ | with_reducible refine post_blkP ?_ | with_reducible refine post_thenR ?_ | with_reducible refine post_blkN ?_ | with_reducible refine post_blkE ?_ | with_reducible refine post_blkF rfl ?_ | with_reducible refine post_blkR ?_
          | with_reducible refine seg_eval (by simp -dsimp -implicitDefEqProofs [avF, hf, hx, hd, hd', e1, e2, hr, hmod, hmod', wu, h58]; rfl) ?_
      all_goals first
        | omega
        | exact hsz1
        | exact post_fin rfl rfl ⟨[], [], rfl, rfl, rfl, rfl⟩
        | trace_state
  | true =>
    have e1 : frB f = enc (frmL f) := by simp [frB, hr]
    have e2 : frE f = 0 := by simp [frE, hr]
    have hb := (rightB_iff f).1 hr
    rw [p1, p2, p3, p4, p5] at hb
    have wv : IntKind.wrap .i64 (view + 1) = view + 1 := IntWalk.i64_in _ (by omega)
    have wf : IntKind.wrap .u8 (from_ + 1) = from_ + 1 := IntWalk.u8_in _ (by omega)
    have ws : IntKind.wrap .i64 (seq + 1) = seq + 1 := IntWalk.i64_in _ (by omega)
    have wk : IntKind.wrap .i64 (kind + 1) = kind + 1 := IntWalk.i64_in _ (by omega)
    have hx1 : 0 ≤ from_ + 1 := by omega
    clear wu
    rcases hm5 with rfl | rfl | rfl | rfl | rfl
    · generalize hg : Frm.mk (view + 1) (from_) (seq) (kind) (body) = g
      have hg' := hg.symm
      have hne : f ≠ g := by intro h; have := congrArg Frm.view h; simp only [p1, hg'] at this; omega
      have hg0 : 0 ≤ g.from_ := by rw [hg']; simp only; omega
      have hf0 : 0 ≤ f.from_ := by omega
      clear hg'
      cases hr2 : rightB g with
      | false =>
        have e3 : frB g = [] := by simp [frB, hr2]
        have e4 : frE g = 2 := by simp [frE, hr2]
        repeat' first
            | with_reducible refine wp_regionS (seg_eval (by simp -dsimp -implicitDefEqProofs [avF, hf, hg, hx, hx1, hd, hd', e1, e2, e3, e4, hr, hmod, hmod', h58, wv, wf, ws, wk]; rfl) ?_)
            | with_reducible refine wp_region (seg_eval (by simp -dsimp -implicitDefEqProofs [avF, hf, hg, hx, hx1, hd, hd', e1, e2, e3, e4, hr, hmod, hmod', h58, wv, wf, ws, wk]; rfl) ?_)
            | with_reducible refine wp_drawsS (seg_eval (by simp -dsimp -implicitDefEqProofs [avF, hf, hg, hx, hx1, hd, hd', e1, e2, e3, e4, hr, hmod, hmod', h58, wv, wf, ws, wk]; rfl) ?_)
            | with_reducible refine wp_draws (seg_eval (by simp -dsimp -implicitDefEqProofs [avF, hf, hg, hx, hx1, hd, hd', e1, e2, e3, e4, hr, hmod, hmod', h58, wv, wf, ws, wk]; rfl) ?_)
            | with_reducible refine seg_fin ?_
            | with_reducible refine seg_pan ?_
            | with_reducible refine seg_both ?_ ?_
            | with_reducible refine seg_case (fun x h => ?_) (fun h => ?_)
            | with_reducible refine seg_gate (fun h => ?_) (fun h => ?_)
            | with_reducible refine seg_need ?_ ?_
            | with_reducible refine wp_assoc ?_ | with_reducible refine wp_skipS ?_ | with_reducible refine wp_retS ?_ | with_reducible refine wp_exitS ?_ | with_reducible refine wp_dropS (wp_eqT (by simp -dsimp -implicitDefEqProofs [avF, hf, hg, hx, hx1, hd, hd', e1, e2, e3, e4, hr, hmod, hmod', h58, wv, wf, ws, wk]; rfl) ?_) | with_reducible refine wp_sealS (by simp -dsimp -implicitDefEqProofs [avF, hf, hg, hx, hx1, hd, hd', e1, e2, e3, e4, hr, hmod, hmod', h58, wv, wf, ws, wk]; rfl) ?_ | with_reducible refine wp_seal (by simp -dsimp -implicitDefEqProofs [avF, hf, hg, hx, hx1, hd, hd', e1, e2, e3, e4, hr, hmod, hmod', h58, wv, wf, ws, wk]; rfl) ?_ | with_reducible refine wp_blockS ?_ | with_reducible refine wp_skip' ?_ | with_reducible refine wp_ret' ?_ | with_reducible refine wp_exit' ?_ | with_reducible refine wp_drop (wp_eqT (by simp -dsimp -implicitDefEqProofs [avF, hf, hg, hx, hx1, hd, hd', e1, e2, e3, e4, hr, hmod, hmod', h58, wv, wf, ws, wk]; rfl) ?_) | with_reducible refine wp_block' ?_
            | with_reducible refine wp_condVS (by simp -dsimp -implicitDefEqProofs [avF, hf, hg, hx, hx1, hd, hd', e1, e2, e3, e4, hr, hmod, hmod', h58, wv, wf, ws, wk]; rfl) ?_
            | with_reducible refine wp_condV (by simp -dsimp -implicitDefEqProofs [avF, hf, hg, hx, hx1, hd, hd', e1, e2, e3, e4, hr, hmod, hmod', h58, wv, wf, ws, wk]; rfl) ?_
            | with_reducible refine cond_t ?_ | with_reducible refine cond_f ?_ | with_reducible refine cond_v (fun h => ?_) (fun h => ?_)
            | with_reducible refine post_then ?_ | with_reducible refine post_thenE ?_ | with_reducible refine post_thenP ?_ | with_reducible refine post_blkP ?_ | with_reducible refine post_thenR ?_ | with_reducible refine post_blkN ?_ | with_reducible refine post_blkE ?_ | with_reducible refine post_blkF rfl ?_ | with_reducible refine post_blkR ?_
            | with_reducible refine seg_eval (by simp -dsimp -implicitDefEqProofs [avF, hf, hg, hx, hx1, hd, hd', e1, e2, e3, e4, hr, hmod, hmod', h58, wv, wf, ws, wk]; rfl) ?_
        all_goals first
          | omega
          | exact hsz1
          | exact post_fin rfl rfl ⟨[], [], rfl, rfl, rfl, rfl⟩
          | trace_state
      | true =>
        have e3 : frB g = enc (frmL g) := by simp [frB, hr2]
        have e4 : frE g = 0 := by simp [frE, hr2]
        have hbne := enc_bne hr hr2 hf0 hg0 hne
        repeat' first
            | with_reducible refine wp_regionS (seg_eval (by simp -dsimp -implicitDefEqProofs [avF, hf, hg, hx, hx1, hd, hd', e1, e2, e3, e4, hr, hmod, hmod', h58, wv, wf, ws, wk, hbne]; rfl) ?_)
            | with_reducible refine wp_region (seg_eval (by simp -dsimp -implicitDefEqProofs [avF, hf, hg, hx, hx1, hd, hd', e1, e2, e3, e4, hr, hmod, hmod', h58, wv, wf, ws, wk, hbne]; rfl) ?_)
            | with_reducible refine wp_drawsS (seg_eval (by simp -dsimp -implicitDefEqProofs [avF, hf, hg, hx, hx1, hd, hd', e1, e2, e3, e4, hr, hmod, hmod', h58, wv, wf, ws, wk, hbne]; rfl) ?_)
            | with_reducible refine wp_draws (seg_eval (by simp -dsimp -implicitDefEqProofs [avF, hf, hg, hx, hx1, hd, hd', e1, e2, e3, e4, hr, hmod, hmod', h58, wv, wf, ws, wk, hbne]; rfl) ?_)
            | with_reducible refine seg_fin ?_
            | with_reducible refine seg_pan ?_
            | with_reducible refine seg_both ?_ ?_
            | with_reducible refine seg_case (fun x h => ?_) (fun h => ?_)
            | with_reducible refine seg_gate (fun h => ?_) (fun h => ?_)
            | with_reducible refine seg_need ?_ ?_
            | with_reducible refine wp_assoc ?_ | with_reducible refine wp_skipS ?_ | with_reducible refine wp_retS ?_ | with_reducible refine wp_exitS ?_ | with_reducible refine wp_dropS (wp_eqT (by simp -dsimp -implicitDefEqProofs [avF, hf, hg, hx, hx1, hd, hd', e1, e2, e3, e4, hr, hmod, hmod', h58, wv, wf, ws, wk, hbne]; rfl) ?_) | with_reducible refine wp_sealS (by simp -dsimp -implicitDefEqProofs [avF, hf, hg, hx, hx1, hd, hd', e1, e2, e3, e4, hr, hmod, hmod', h58, wv, wf, ws, wk, hbne]; rfl) ?_ | with_reducible refine wp_seal (by simp -dsimp -implicitDefEqProofs [avF, hf, hg, hx, hx1, hd, hd', e1, e2, e3, e4, hr, hmod, hmod', h58, wv, wf, ws, wk, hbne]; rfl) ?_ | with_reducible refine wp_blockS ?_ | with_reducible refine wp_skip' ?_ | with_reducible refine wp_ret' ?_ | with_reducible refine wp_exit' ?_ | with_reducible refine wp_drop (wp_eqT (by simp -dsimp -implicitDefEqProofs [avF, hf, hg, hx, hx1, hd, hd', e1, e2, e3, e4, hr, hmod, hmod', h58, wv, wf, ws, wk, hbne]; rfl) ?_) | with_reducible refine wp_block' ?_
            | with_reducible refine wp_condVS (by simp -dsimp -implicitDefEqProofs [avF, hf, hg, hx, hx1, hd, hd', e1, e2, e3, e4, hr, hmod, hmod', h58, wv, wf, ws, wk, hbne]; rfl) ?_
            | with_reducible refine wp_condV (by simp -dsimp -implicitDefEqProofs [avF, hf, hg, hx, hx1, hd, hd', e1, e2, e3, e4, hr, hmod, hmod', h58, wv, wf, ws, wk, hbne]; rfl) ?_
            | with_reducible refine cond_t ?_ | with_reducible refine cond_f ?_ | with_reducible refine cond_v (fun h => ?_) (fun h => ?_)
            | with_reducible refine post_then ?_ | with_reducible refine post_thenE ?_ | with_reducible refine post_thenP ?_ | with_reducible refine post_blkP ?_ | with_reducible refine post_thenR ?_ | with_reducible refine post_blkN ?_ | with_reducible refine post_blkE ?_ | with_reducible refine post_blkF rfl ?_ | with_reducible refine post_blkR ?_
            | with_reducible refine seg_eval (by simp -dsimp -implicitDefEqProofs [avF, hf, hg, hx, hx1, hd, hd', e1, e2, e3, e4, hr, hmod, hmod', h58, wv, wf, ws, wk, hbne]; rfl) ?_
        all_goals first
          | omega
          | exact hsz1
          | exact post_fin rfl rfl ⟨[], [], rfl, rfl, rfl, rfl⟩
          | trace_state
    · generalize hg : Frm.mk (view) (from_ + 1) (seq) (kind) (body) = g
      have hg' := hg.symm
      have hne : f ≠ g := by intro h; have := congrArg Frm.from_ h; simp only [p2, hg'] at this; omega
      have hg0 : 0 ≤ g.from_ := by rw [hg']; simp only; omega
      have hf0 : 0 ≤ f.from_ := by omega
      clear hg'
      cases hr2 : rightB g with
      | false =>
        have e3 : frB g = [] := by simp [frB, hr2]
        have e4 : frE g = 2 := by simp [frE, hr2]
        repeat' first
            | with_reducible refine wp_regionS (seg_eval (by simp -dsimp -implicitDefEqProofs [avF, hf, hg, hx, hx1, hd, hd', e1, e2, e3, e4, hr, hmod, hmod', h58, wv, wf, ws, wk]; rfl) ?_)
            | with_reducible refine wp_region (seg_eval (by simp -dsimp -implicitDefEqProofs [avF, hf, hg, hx, hx1, hd, hd', e1, e2, e3, e4, hr, hmod, hmod', h58, wv, wf, ws, wk]; rfl) ?_)
            | with_reducible refine wp_drawsS (seg_eval (by simp -dsimp -implicitDefEqProofs [avF, hf, hg, hx, hx1, hd, hd', e1, e2, e3, e4, hr, hmod, hmod', h58, wv, wf, ws, wk]; rfl) ?_)
            | with_reducible refine wp_draws (seg_eval (by simp -dsimp -implicitDefEqProofs [avF, hf, hg, hx, hx1, hd, hd', e1, e2, e3, e4, hr, hmod, hmod', h58, wv, wf, ws, wk]; rfl) ?_)
            | with_reducible refine seg_fin ?_
            | with_reducible refine seg_pan ?_
            | with_reducible refine seg_both ?_ ?_
            | with_reducible refine seg_case (fun x h => ?_) (fun h => ?_)
            | with_reducible refine seg_gate (fun h => ?_) (fun h => ?_)
            | with_reducible refine seg_need ?_ ?_
            | with_reducible refine wp_assoc ?_ | with_reducible refine wp_skipS ?_ | with_reducible refine wp_retS ?_ | with_reducible refine wp_exitS ?_ | with_reducible refine wp_dropS (wp_eqT (by simp -dsimp -implicitDefEqProofs [avF, hf, hg, hx, hx1, hd, hd', e1, e2, e3, e4, hr, hmod, hmod', h58, wv, wf, ws, wk]; rfl) ?_) | with_reducible refine wp_sealS (by simp -dsimp -implicitDefEqProofs [avF, hf, hg, hx, hx1, hd, hd', e1, e2, e3, e4, hr, hmod, hmod', h58, wv, wf, ws, wk]; rfl) ?_ | with_reducible refine wp_seal (by simp -dsimp -implicitDefEqProofs [avF, hf, hg, hx, hx1, hd, hd', e1, e2, e3, e4, hr, hmod, hmod', h58, wv, wf, ws, wk]; rfl) ?_ | with_reducible refine wp_blockS ?_ | with_reducible refine wp_skip' ?_ | with_reducible refine wp_ret' ?_ | with_reducible refine wp_exit' ?_ | with_reducible refine wp_drop (wp_eqT (by simp -dsimp -implicitDefEqProofs [avF, hf, hg, hx, hx1, hd, hd', e1, e2, e3, e4, hr, hmod, hmod', h58, wv, wf, ws, wk]; rfl) ?_) | with_reducible refine wp_block' ?_
            | with_reducible refine wp_condVS (by simp -dsimp -implicitDefEqProofs [avF, hf, hg, hx, hx1, hd, hd', e1, e2, e3, e4, hr, hmod, hmod', h58, wv, wf, ws, wk]; rfl) ?_
            | with_reducible refine wp_condV (by simp -dsimp -implicitDefEqProofs [avF, hf, hg, hx, hx1, hd, hd', e1, e2, e3, e4, hr, hmod, hmod', h58, wv, wf, ws, wk]; rfl) ?_
            | with_reducible refine cond_t ?_ | with_reducible refine cond_f ?_ | with_reducible refine cond_v (fun h => ?_) (fun h => ?_)
            | with_reducible refine post_then ?_ | with_reducible refine post_thenE ?_ | with_reducible refine post_thenP ?_ | with_reducible refine post_blkP ?_ | with_reducible refine post_thenR ?_ | with_reducible refine post_blkN ?_ | with_reducible refine post_blkE ?_ | with_reducible refine post_blkF rfl ?_ | with_reducible refine post_blkR ?_
            | with_reducible refine seg_eval (by simp -dsimp -implicitDefEqProofs [avF, hf, hg, hx, hx1, hd, hd', e1, e2, e3, e4, hr, hmod, hmod', h58, wv, wf, ws, wk]; rfl) ?_
        all_goals first
          | omega
          | exact hsz1
          | exact post_fin rfl rfl ⟨[], [], rfl, rfl, rfl, rfl⟩
          | trace_state
      | true =>
        have e3 : frB g = enc (frmL g) := by simp [frB, hr2]
        have e4 : frE g = 0 := by simp [frE, hr2]
        have hbne := enc_bne hr hr2 hf0 hg0 hne
        repeat' first
            | with_reducible refine wp_regionS (seg_eval (by simp -dsimp -implicitDefEqProofs [avF, hf, hg, hx, hx1, hd, hd', e1, e2, e3, e4, hr, hmod, hmod', h58, wv, wf, ws, wk, hbne]; rfl) ?_)
            | with_reducible refine wp_region (seg_eval (by simp -dsimp -implicitDefEqProofs [avF, hf, hg, hx, hx1, hd, hd', e1, e2, e3, e4, hr, hmod, hmod', h58, wv, wf, ws, wk, hbne]; rfl) ?_)
            | with_reducible refine wp_drawsS (seg_eval (by simp -dsimp -implicitDefEqProofs [avF, hf, hg, hx, hx1, hd, hd', e1, e2, e3, e4, hr, hmod, hmod', h58, wv, wf, ws, wk, hbne]; rfl) ?_)
            | with_reducible refine wp_draws (seg_eval (by simp -dsimp -implicitDefEqProofs [avF, hf, hg, hx, hx1, hd, hd', e1, e2, e3, e4, hr, hmod, hmod', h58, wv, wf, ws, wk, hbne]; rfl) ?_)
            | with_reducible refine seg_fin ?_
            | with_reducible refine seg_pan ?_
            | with_reducible refine seg_both ?_ ?_
            | with_reducible refine seg_case (fun x h => ?_) (fun h => ?_)
            | with_reducible refine seg_gate (fun h => ?_) (fun h => ?_)
            | with_reducible refine seg_need ?_ ?_
            | with_reducible refine wp_assoc ?_ | with_reducible refine wp_skipS ?_ | with_reducible refine wp_retS ?_ | with_reducible refine wp_exitS ?_ | with_reducible refine wp_dropS (wp_eqT (by simp -dsimp -implicitDefEqProofs [avF, hf, hg, hx, hx1, hd, hd', e1, e2, e3, e4, hr, hmod, hmod', h58, wv, wf, ws, wk, hbne]; rfl) ?_) | with_reducible refine wp_sealS (by simp -dsimp -implicitDefEqProofs [avF, hf, hg, hx, hx1, hd, hd', e1, e2, e3, e4, hr, hmod, hmod', h58, wv, wf, ws, wk, hbne]; rfl) ?_ | with_reducible refine wp_seal (by simp -dsimp -implicitDefEqProofs [avF, hf, hg, hx, hx1, hd, hd', e1, e2, e3, e4, hr, hmod, hmod', h58, wv, wf, ws, wk, hbne]; rfl) ?_ | with_reducible refine wp_blockS ?_ | with_reducible refine wp_skip' ?_ | with_reducible refine wp_ret' ?_ | with_reducible refine wp_exit' ?_ | with_reducible refine wp_drop (wp_eqT (by simp -dsimp -implicitDefEqProofs [avF, hf, hg, hx, hx1, hd, hd', e1, e2, e3, e4, hr, hmod, hmod', h58, wv, wf, ws, wk, hbne]; rfl) ?_) | with_reducible refine wp_block' ?_
            | with_reducible refine wp_condVS (by simp -dsimp -implicitDefEqProofs [avF, hf, hg, hx, hx1, hd, hd', e1, e2, e3, e4, hr, hmod, hmod', h58, wv, wf, ws, wk, hbne]; rfl) ?_
            | with_reducible refine wp_condV (by simp -dsimp -implicitDefEqProofs [avF, hf, hg, hx, hx1, hd, hd', e1, e2, e3, e4, hr, hmod, hmod', h58, wv, wf, ws, wk, hbne]; rfl) ?_
            | with_reducible refine cond_t ?_ | with_reducible refine cond_f ?_ | with_reducible refine cond_v (fun h => ?_) (fun h => ?_)
            | with_reducible refine post_then ?_ | with_reducible refine post_thenE ?_ | with_reducible refine post_thenP ?_ | with_reducible refine post_blkP ?_ | with_reducible refine post_thenR ?_ | with_reducible refine post_blkN ?_ | with_reducible refine post_blkE ?_ | with_reducible refine post_blkF rfl ?_ | with_reducible refine post_blkR ?_
            | with_reducible refine seg_eval (by simp -dsimp -implicitDefEqProofs [avF, hf, hg, hx, hx1, hd, hd', e1, e2, e3, e4, hr, hmod, hmod', h58, wv, wf, ws, wk, hbne]; rfl) ?_
        all_goals first
          | omega
          | exact hsz1
          | exact post_fin rfl rfl ⟨[], [], rfl, rfl, rfl, rfl⟩
          | trace_state
    · generalize hg : Frm.mk (view) (from_) (seq + 1) (kind) (body) = g
      have hg' := hg.symm
      have hne : f ≠ g := by intro h; have := congrArg Frm.seq h; simp only [p3, hg'] at this; omega
      have hg0 : 0 ≤ g.from_ := by rw [hg']; simp only; omega
      have hf0 : 0 ≤ f.from_ := by omega
      clear hg'
      cases hr2 : rightB g with
      | false =>
        have e3 : frB g = [] := by simp [frB, hr2]
        have e4 : frE g = 2 := by simp [frE, hr2]
        repeat' first
            | with_reducible refine wp_regionS (seg_eval (by simp -dsimp -implicitDefEqProofs [avF, hf, hg, hx, hx1, hd, hd', e1, e2, e3, e4, hr, hmod, hmod', h58, wv, wf, ws, wk]; rfl) ?_)
            | with_reducible refine wp_region (seg_eval (by simp -dsimp -implicitDefEqProofs [avF, hf, hg, hx, hx1, hd, hd', e1, e2, e3, e4, hr, hmod, hmod', h58, wv, wf, ws, wk]; rfl) ?_)
            | with_reducible refine wp_drawsS (seg_eval (by simp -dsimp -implicitDefEqProofs [avF, hf, hg, hx, hx1, hd, hd', e1, e2, e3, e4, hr, hmod, hmod', h58, wv, wf, ws, wk]; rfl) ?_)
            | with_reducible refine wp_draws (seg_eval (by simp -dsimp -implicitDefEqProofs [avF, hf, hg, hx, hx1, hd, hd', e1, e2, e3, e4, hr, hmod, hmod', h58, wv, wf, ws, wk]; rfl) ?_)
            | with_reducible refine seg_fin ?_
            | with_reducible refine seg_pan ?_
            | with_reducible refine seg_both ?_ ?_
            | with_reducible refine seg_case (fun x h => ?_) (fun h => ?_)
            | with_reducible refine seg_gate (fun h => ?_) (fun h => ?_)
            | with_reducible refine seg_need ?_ ?_
            | with_reducible refine wp_assoc ?_ | with_reducible refine wp_skipS ?_ | with_reducible refine wp_retS ?_ | with_reducible refine wp_exitS ?_ | with_reducible refine wp_dropS (wp_eqT (by simp -dsimp -implicitDefEqProofs [avF, hf, hg, hx, hx1, hd, hd', e1, e2, e3, e4, hr, hmod, hmod', h58, wv, wf, ws, wk]; rfl) ?_) | with_reducible refine wp_sealS (by simp -dsimp -implicitDefEqProofs [avF, hf, hg, hx, hx1, hd, hd', e1, e2, e3, e4, hr, hmod, hmod', h58, wv, wf, ws, wk]; rfl) ?_ | with_reducible refine wp_seal (by simp -dsimp -implicitDefEqProofs [avF, hf, hg, hx, hx1, hd, hd', e1, e2, e3, e4, hr, hmod, hmod', h58, wv, wf, ws, wk]; rfl) ?_ | with_reducible refine wp_blockS ?_ | with_reducible refine wp_skip' ?_ | with_reducible refine wp_ret' ?_ | with_reducible refine wp_exit' ?_ | with_reducible refine wp_drop (wp_eqT (by simp -dsimp -implicitDefEqProofs [avF, hf, hg, hx, hx1, hd, hd', e1, e2, e3, e4, hr, hmod, hmod', h58, wv, wf, ws, wk]; rfl) ?_) | with_reducible refine wp_block' ?_
            | with_reducible refine wp_condVS (by simp -dsimp -implicitDefEqProofs [avF, hf, hg, hx, hx1, hd, hd', e1, e2, e3, e4, hr, hmod, hmod', h58, wv, wf, ws, wk]; rfl) ?_
            | with_reducible refine wp_condV (by simp -dsimp -implicitDefEqProofs [avF, hf, hg, hx, hx1, hd, hd', e1, e2, e3, e4, hr, hmod, hmod', h58, wv, wf, ws, wk]; rfl) ?_
            | with_reducible refine cond_t ?_ | with_reducible refine cond_f ?_ | with_reducible refine cond_v (fun h => ?_) (fun h => ?_)
            | with_reducible refine post_then ?_ | with_reducible refine post_thenE ?_ | with_reducible refine post_thenP ?_ | with_reducible refine post_blkP ?_ | with_reducible refine post_thenR ?_ | with_reducible refine post_blkN ?_ | with_reducible refine post_blkE ?_ | with_reducible refine post_blkF rfl ?_ | with_reducible refine post_blkR ?_
            | with_reducible refine seg_eval (by simp -dsimp -implicitDefEqProofs [avF, hf, hg, hx, hx1, hd, hd', e1, e2, e3, e4, hr, hmod, hmod', h58, wv, wf, ws, wk]; rfl) ?_
        all_goals first
          | omega
          | exact hsz1
          | exact post_fin rfl rfl ⟨[], [], rfl, rfl, rfl, rfl⟩
          | trace_state
      | true =>
        have e3 : frB g = enc (frmL g) := by simp [frB, hr2]
        have e4 : frE g = 0 := by simp [frE, hr2]
        have hbne := enc_bne hr hr2 hf0 hg0 hne
        repeat' first
            | with_reducible refine wp_regionS (seg_eval (by simp -dsimp -implicitDefEqProofs [avF, hf, hg, hx, hx1, hd, hd', e1, e2, e3, e4, hr, hmod, hmod', h58, wv, wf, ws, wk, hbne]; rfl) ?_)
            | with_reducible refine wp_region (seg_eval (by simp -dsimp -implicitDefEqProofs [avF, hf, hg, hx, hx1, hd, hd', e1, e2, e3, e4, hr, hmod, hmod', h58, wv, wf, ws, wk, hbne]; rfl) ?_)
            | with_reducible refine wp_drawsS (seg_eval (by simp -dsimp -implicitDefEqProofs [avF, hf, hg, hx, hx1, hd, hd', e1, e2, e3, e4, hr, hmod, hmod', h58, wv, wf, ws, wk, hbne]; rfl) ?_)
            | with_reducible refine wp_draws (seg_eval (by simp -dsimp -implicitDefEqProofs [avF, hf, hg, hx, hx1, hd, hd', e1, e2, e3, e4, hr, hmod, hmod', h58, wv, wf, ws, wk, hbne]; rfl) ?_)
            | with_reducible refine seg_fin ?_
            | with_reducible refine seg_pan ?_
            | with_reducible refine seg_both ?_ ?_
            | with_reducible refine seg_case (fun x h => ?_) (fun h => ?_)
            | with_reducible refine seg_gate (fun h => ?_) (fun h => ?_)
            | with_reducible refine seg_need ?_ ?_
            | with_reducible refine wp_assoc ?_ | with_reducible refine wp_skipS ?_ | with_reducible refine wp_retS ?_ | with_reducible refine wp_exitS ?_ | with_reducible refine wp_dropS (wp_eqT (by simp -dsimp -implicitDefEqProofs [avF, hf, hg, hx, hx1, hd, hd', e1, e2, e3, e4, hr, hmod, hmod', h58, wv, wf, ws, wk, hbne]; rfl) ?_) | with_reducible refine wp_sealS (by simp -dsimp -implicitDefEqProofs [avF, hf, hg, hx, hx1, hd, hd', e1, e2, e3, e4, hr, hmod, hmod', h58, wv, wf, ws, wk, hbne]; rfl) ?_ | with_reducible refine wp_seal (by simp -dsimp -implicitDefEqProofs [avF, hf, hg, hx, hx1, hd, hd', e1, e2, e3, e4, hr, hmod, hmod', h58, wv, wf, ws, wk, hbne]; rfl) ?_ | with_reducible refine wp_blockS ?_ | with_reducible refine wp_skip' ?_ | with_reducible refine wp_ret' ?_ | with_reducible refine wp_exit' ?_ | with_reducible refine wp_drop (wp_eqT (by simp -dsimp -implicitDefEqProofs [avF, hf, hg, hx, hx1, hd, hd', e1, e2, e3, e4, hr, hmod, hmod', h58, wv, wf, ws, wk, hbne]; rfl) ?_) | with_reducible refine wp_block' ?_
            | with_reducible refine wp_condVS (by simp -dsimp -implicitDefEqProofs [avF, hf, hg, hx, hx1, hd, hd', e1, e2, e3, e4, hr, hmod, hmod', h58, wv, wf, ws, wk, hbne]; rfl) ?_
            | with_reducible refine wp_condV (by simp -dsimp -implicitDefEqProofs [avF, hf, hg, hx, hx1, hd, hd', e1, e2, e3, e4, hr, hmod, hmod', h58, wv, wf, ws, wk, hbne]; rfl) ?_
            | with_reducible refine cond_t ?_ | with_reducible refine cond_f ?_ | with_reducible refine cond_v (fun h => ?_) (fun h => ?_)
            | with_reducible refine post_then ?_ | with_reducible refine post_thenE ?_ | with_reducible refine post_thenP ?_ | with_reducible refine post_blkP ?_ | with_reducible refine post_thenR ?_ | with_reducible refine post_blkN ?_ | with_reducible refine post_blkE ?_ | with_reducible refine post_blkF rfl ?_ | with_reducible refine post_blkR ?_
            | with_reducible refine seg_eval (by simp -dsimp -implicitDefEqProofs [avF, hf, hg, hx, hx1, hd, hd', e1, e2, e3, e4, hr, hmod, hmod', h58, wv, wf, ws, wk, hbne]; rfl) ?_
        all_goals first
          | omega
          | exact hsz1
          | exact post_fin rfl rfl ⟨[], [], rfl, rfl, rfl, rfl⟩
          | trace_state
    · generalize hg : Frm.mk (view) (from_) (seq) (kind + 1) (body) = g
      have hg' := hg.symm
      have hne : f ≠ g := by intro h; have := congrArg Frm.kind h; simp only [p4, hg'] at this; omega
      have hg0 : 0 ≤ g.from_ := by rw [hg']; simp only; omega
      have hf0 : 0 ≤ f.from_ := by omega
      clear hg'
      cases hr2 : rightB g with
      | false =>
        have e3 : frB g = [] := by simp [frB, hr2]
        have e4 : frE g = 2 := by simp [frE, hr2]
        repeat' first
            | with_reducible refine wp_regionS (seg_eval (by simp -dsimp -implicitDefEqProofs [avF, hf, hg, hx, hx1, hd, hd', e1, e2, e3, e4, hr, hmod, hmod', h58, wv, wf, ws, wk]; rfl) ?_)
            | with_reducible refine wp_region (seg_eval (by simp -dsimp -implicitDefEqProofs [avF, hf, hg, hx, hx1, hd, hd', e1, e2, e3, e4, hr, hmod, hmod', h58, wv, wf, ws, wk]; rfl) ?_)
            | with_reducible refine wp_drawsS (seg_eval (by simp -dsimp -implicitDefEqProofs [avF, hf, hg, hx, hx1, hd, hd', e1, e2, e3, e4, hr, hmod, hmod', h58, wv, wf, ws, wk]; rfl) ?_)
            | with_reducible refine wp_draws (seg_eval (by simp -dsimp -implicitDefEqProofs [avF, hf, hg, hx, hx1, hd, hd', e1, e2, e3, e4, hr, hmod, hmod', h58, wv, wf, ws, wk]; rfl) ?_)
            | with_reducible refine seg_fin ?_
            | with_reducible refine seg_pan ?_
            | with_reducible refine seg_both ?_ ?_
            | with_reducible refine seg_case (fun x h => ?_) (fun h => ?_)
            | with_reducible refine seg_gate (fun h => ?_) (fun h => ?_)
            | with_reducible refine seg_need ?_ ?_
            | with_reducible refine wp_assoc ?_ | with_reducible refine wp_skipS ?_ | with_reducible refine wp_retS ?_ | with_reducible refine wp_exitS ?_ | with_reducible refine wp_dropS (wp_eqT (by simp -dsimp -implicitDefEqProofs [avF, hf, hg, hx, hx1, hd, hd', e1, e2, e3, e4, hr, hmod, hmod', h58, wv, wf, ws, wk]; rfl) ?_) | with_reducible refine wp_sealS (by simp -dsimp -implicitDefEqProofs [avF, hf, hg, hx, hx1, hd, hd', e1, e2, e3, e4, hr, hmod, hmod', h58, wv, wf, ws, wk]; rfl) ?_ | with_reducible refine wp_seal (by simp -dsimp -implicitDefEqProofs [avF, hf, hg, hx, hx1, hd, hd', e1, e2, e3, e4, hr, hmod, hmod', h58, wv, wf, ws, wk]; rfl) ?_ | with_reducible refine wp_blockS ?_ | with_reducible refine wp_skip' ?_ | with_reducible refine wp_ret' ?_ | with_reducible refine wp_exit' ?_ | with_reducible refine wp_drop (wp_eqT (by simp -dsimp -implicitDefEqProofs [avF, hf, hg, hx, hx1, hd, hd', e1, e2, e3, e4, hr, hmod, hmod', h58, wv, wf, ws, wk]; rfl) ?_) | with_reducible refine wp_block' ?_
            | with_reducible refine wp_condVS (by simp -dsimp -implicitDefEqProofs [avF, hf, hg, hx, hx1, hd, hd', e1, e2, e3, e4, hr, hmod, hmod', h58, wv, wf, ws, wk]; rfl) ?_
            | with_reducible refine wp_condV (by simp -dsimp -implicitDefEqProofs [avF, hf, hg, hx, hx1, hd, hd', e1, e2, e3, e4, hr, hmod, hmod', h58, wv, wf, ws, wk]; rfl) ?_
            | with_reducible refine cond_t ?_ | with_reducible refine cond_f ?_ | with_reducible refine cond_v (fun h => ?_) (fun h => ?_)
            | with_reducible refine post_then ?_ | with_reducible refine post_thenE ?_ | with_reducible refine post_thenP ?_ | with_reducible refine post_blkP ?_ | with_reducible refine post_thenR ?_ | with_reducible refine post_blkN ?_ | with_reducible refine post_blkE ?_ | with_reducible refine post_blkF rfl ?_ | with_reducible refine post_blkR ?_
            | with_reducible refine seg_eval (by simp -dsimp -implicitDefEqProofs [avF, hf, hg, hx, hx1, hd, hd', e1, e2, e3, e4, hr, hmod, hmod', h58, wv, wf, ws, wk]; rfl) ?_
        all_goals first
          | omega
          | exact hsz1
          | exact post_fin rfl rfl ⟨[], [], rfl, rfl, rfl, rfl⟩
          | trace_state
      | true =>
        have e3 : frB g = enc (frmL g) := by simp [frB, hr2]
        have e4 : frE g = 0 := by simp [frE, hr2]
        have hbne := enc_bne hr hr2 hf0 hg0 hne
        repeat' first
            | with_reducible refine wp_regionS (seg_eval (by simp -dsimp -implicitDefEqProofs [avF, hf, hg, hx, hx1, hd, hd', e1, e2, e3, e4, hr, hmod, hmod', h58, wv, wf, ws, wk, hbne]; rfl) ?_)
            | with_reducible refine wp_region (seg_eval (by simp -dsimp -implicitDefEqProofs [avF, hf, hg, hx, hx1, hd, hd', e1, e2, e3, e4, hr, hmod, hmod', h58, wv, wf, ws, wk, hbne]; rfl) ?_)
            | with_reducible refine wp_drawsS (seg_eval (by simp -dsimp -implicitDefEqProofs [avF, hf, hg, hx, hx1, hd, hd', e1, e2, e3, e4, hr, hmod, hmod', h58, wv, wf, ws, wk, hbne]; rfl) ?_)
            | with_reducible refine wp_draws (seg_eval (by simp -dsimp -implicitDefEqProofs [avF, hf, hg, hx, hx1, hd, hd', e1, e2, e3, e4, hr, hmod, hmod', h58, wv, wf, ws, wk, hbne]; rfl) ?_)
            | with_reducible refine seg_fin ?_
            | with_reducible refine seg_pan ?_
            | with_reducible refine seg_both ?_ ?_
            | with_reducible refine seg_case (fun x h => ?_) (fun h => ?_)
            | with_reducible refine seg_gate (fun h => ?_) (fun h => ?_)
            | with_reducible refine seg_need ?_ ?_
            | with_reducible refine wp_assoc ?_ | with_reducible refine wp_skipS ?_ | with_reducible refine wp_retS ?_ | with_reducible refine wp_exitS ?_ | with_reducible refine wp_dropS (wp_eqT (by simp -dsimp -implicitDefEqProofs [avF, hf, hg, hx, hx1, hd, hd', e1, e2, e3, e4, hr, hmod, hmod', h58, wv, wf, ws, wk, hbne]; rfl) ?_) | with_reducible refine wp_sealS (by simp -dsimp -implicitDefEqProofs [avF, hf, hg, hx, hx1, hd, hd', e1, e2, e3, e4, hr, hmod, hmod', h58, wv, wf, ws, wk, hbne]; rfl) ?_ | with_reducible refine wp_seal (by simp -dsimp -implicitDefEqProofs [avF, hf, hg, hx, hx1, hd, hd', e1, e2, e3, e4, hr, hmod, hmod', h58, wv, wf, ws, wk, hbne]; rfl) ?_ | with_reducible refine wp_blockS ?_ | with_reducible refine wp_skip' ?_ | with_reducible refine wp_ret' ?_ | with_reducible refine wp_exit' ?_ | with_reducible refine wp_drop (wp_eqT (by simp -dsimp -implicitDefEqProofs [avF, hf, hg, hx, hx1, hd, hd', e1, e2, e3, e4, hr, hmod, hmod', h58, wv, wf, ws, wk, hbne]; rfl) ?_) | with_reducible refine wp_block' ?_
            | with_reducible refine wp_condVS (by simp -dsimp -implicitDefEqProofs [avF, hf, hg, hx, hx1, hd, hd', e1, e2, e3, e4, hr, hmod, hmod', h58, wv, wf, ws, wk, hbne]; rfl) ?_
            | with_reducible refine wp_condV (by simp -dsimp -implicitDefEqProofs [avF, hf, hg, hx, hx1, hd, hd', e1, e2, e3, e4, hr, hmod, hmod', h58, wv, wf, ws, wk, hbne]; rfl) ?_
            | with_reducible refine cond_t ?_ | with_reducible refine cond_f ?_ | with_reducible refine cond_v (fun h => ?_) (fun h => ?_)
            | with_reducible refine post_then ?_ | with_reducible refine post_thenE ?_ | with_reducible refine post_thenP ?_ | with_reducible refine post_blkP ?_ | with_reducible refine post_thenR ?_ | with_reducible refine post_blkN ?_ | with_reducible refine post_blkE ?_ | with_reducible refine post_blkF rfl ?_ | with_reducible refine post_blkR ?_
            | with_reducible refine seg_eval (by simp -dsimp -implicitDefEqProofs [avF, hf, hg, hx, hx1, hd, hd', e1, e2, e3, e4, hr, hmod, hmod', h58, wv, wf, ws, wk, hbne]; rfl) ?_
        all_goals first
          | omega
          | exact hsz1
          | exact post_fin rfl rfl ⟨[], [], rfl, rfl, rfl, rfl⟩
          | trace_state
    · generalize hg : Frm.mk (view) (from_) (seq) (kind) (body ++ ⟨#[120]⟩) = g
      have hg' := hg.symm
      have hne : f ≠ g := by intro h; have := congrArg (fun x => x.body.size) h; simp only [p5, hg', ByteArray.size_append] at this; have h1 : ByteArray.size ⟨#[120]⟩ = 1 := rfl; omega
      have hg0 : 0 ≤ g.from_ := by rw [hg']; simp only; omega
      have hf0 : 0 ≤ f.from_ := by omega
      clear hg'
      cases hr2 : rightB g with
      | false =>
        have e3 : frB g = [] := by simp [frB, hr2]
        have e4 : frE g = 2 := by simp [frE, hr2]
        repeat' first
            | with_reducible refine wp_regionS (seg_eval (by simp -dsimp -implicitDefEqProofs [avF, hf, hg, hx, hx1, hd, hd', e1, e2, e3, e4, hr, hmod, hmod', h58, wv, wf, ws, wk]; rfl) ?_)
            | with_reducible refine wp_region (seg_eval (by simp -dsimp -implicitDefEqProofs [avF, hf, hg, hx, hx1, hd, hd', e1, e2, e3, e4, hr, hmod, hmod', h58, wv, wf, ws, wk]; rfl) ?_)
            | with_reducible refine wp_drawsS (seg_eval (by simp -dsimp -implicitDefEqProofs [avF, hf, hg, hx, hx1, hd, hd', e1, e2, e3, e4, hr, hmod, hmod', h58, wv, wf, ws, wk]; rfl) ?_)
            | with_reducible refine wp_draws (seg_eval (by simp -dsimp -implicitDefEqProofs [avF, hf, hg, hx, hx1, hd, hd', e1, e2, e3, e4, hr, hmod, hmod', h58, wv, wf, ws, wk]; rfl) ?_)
            | with_reducible refine seg_fin ?_
            | with_reducible refine seg_pan ?_
            | with_reducible refine seg_both ?_ ?_
            | with_reducible refine seg_case (fun x h => ?_) (fun h => ?_)
            | with_reducible refine seg_gate (fun h => ?_) (fun h => ?_)
            | with_reducible refine seg_need ?_ ?_
            | with_reducible refine wp_assoc ?_ | with_reducible refine wp_skipS ?_ | with_reducible refine wp_retS ?_ | with_reducible refine wp_exitS ?_ | with_reducible refine wp_dropS (wp_eqT (by simp -dsimp -implicitDefEqProofs [avF, hf, hg, hx, hx1, hd, hd', e1, e2, e3, e4, hr, hmod, hmod', h58, wv, wf, ws, wk]; rfl) ?_) | with_reducible refine wp_sealS (by simp -dsimp -implicitDefEqProofs [avF, hf, hg, hx, hx1, hd, hd', e1, e2, e3, e4, hr, hmod, hmod', h58, wv, wf, ws, wk]; rfl) ?_ | with_reducible refine wp_seal (by simp -dsimp -implicitDefEqProofs [avF, hf, hg, hx, hx1, hd, hd', e1, e2, e3, e4, hr, hmod, hmod', h58, wv, wf, ws, wk]; rfl) ?_ | with_reducible refine wp_blockS ?_ | with_reducible refine wp_skip' ?_ | with_reducible refine wp_ret' ?_ | with_reducible refine wp_exit' ?_ | with_reducible refine wp_drop (wp_eqT (by simp -dsimp -implicitDefEqProofs [avF, hf, hg, hx, hx1, hd, hd', e1, e2, e3, e4, hr, hmod, hmod', h58, wv, wf, ws, wk]; rfl) ?_) | with_reducible refine wp_block' ?_
            | with_reducible refine wp_condVS (by simp -dsimp -implicitDefEqProofs [avF, hf, hg, hx, hx1, hd, hd', e1, e2, e3, e4, hr, hmod, hmod', h58, wv, wf, ws, wk]; rfl) ?_
            | with_reducible refine wp_condV (by simp -dsimp -implicitDefEqProofs [avF, hf, hg, hx, hx1, hd, hd', e1, e2, e3, e4, hr, hmod, hmod', h58, wv, wf, ws, wk]; rfl) ?_
            | with_reducible refine cond_t ?_ | with_reducible refine cond_f ?_ | with_reducible refine cond_v (fun h => ?_) (fun h => ?_)
            | with_reducible refine post_then ?_ | with_reducible refine post_thenE ?_ | with_reducible refine post_thenP ?_ | with_reducible refine post_blkP ?_ | with_reducible refine post_thenR ?_ | with_reducible refine post_blkN ?_ | with_reducible refine post_blkE ?_ | with_reducible refine post_blkF rfl ?_ | with_reducible refine post_blkR ?_
            | with_reducible refine seg_eval (by simp -dsimp -implicitDefEqProofs [avF, hf, hg, hx, hx1, hd, hd', e1, e2, e3, e4, hr, hmod, hmod', h58, wv, wf, ws, wk]; rfl) ?_
        all_goals first
          | omega
          | exact hsz1
          | exact post_fin rfl rfl ⟨[], [], rfl, rfl, rfl, rfl⟩
          | trace_state
      | true =>
        have e3 : frB g = enc (frmL g) := by simp [frB, hr2]
        have e4 : frE g = 0 := by simp [frE, hr2]
        have hbne := enc_bne hr hr2 hf0 hg0 hne
        repeat' first
            | with_reducible refine wp_regionS (seg_eval (by simp -dsimp -implicitDefEqProofs [avF, hf, hg, hx, hx1, hd, hd', e1, e2, e3, e4, hr, hmod, hmod', h58, wv, wf, ws, wk, hbne]; rfl) ?_)
            | with_reducible refine wp_region (seg_eval (by simp -dsimp -implicitDefEqProofs [avF, hf, hg, hx, hx1, hd, hd', e1, e2, e3, e4, hr, hmod, hmod', h58, wv, wf, ws, wk, hbne]; rfl) ?_)
            | with_reducible refine wp_drawsS (seg_eval (by simp -dsimp -implicitDefEqProofs [avF, hf, hg, hx, hx1, hd, hd', e1, e2, e3, e4, hr, hmod, hmod', h58, wv, wf, ws, wk, hbne]; rfl) ?_)
            | with_reducible refine wp_draws (seg_eval (by simp -dsimp -implicitDefEqProofs [avF, hf, hg, hx, hx1, hd, hd', e1, e2, e3, e4, hr, hmod, hmod', h58, wv, wf, ws, wk, hbne]; rfl) ?_)
            | with_reducible refine seg_fin ?_
            | with_reducible refine seg_pan ?_
            | with_reducible refine seg_both ?_ ?_
            | with_reducible refine seg_case (fun x h => ?_) (fun h => ?_)
            | with_reducible refine seg_gate (fun h => ?_) (fun h => ?_)
            | with_reducible refine seg_need ?_ ?_
            | with_reducible refine wp_assoc ?_ | with_reducible refine wp_skipS ?_ | with_reducible refine wp_retS ?_ | with_reducible refine wp_exitS ?_ | with_reducible refine wp_dropS (wp_eqT (by simp -dsimp -implicitDefEqProofs [avF, hf, hg, hx, hx1, hd, hd', e1, e2, e3, e4, hr, hmod, hmod', h58, wv, wf, ws, wk, hbne]; rfl) ?_) | with_reducible refine wp_sealS (by simp -dsimp -implicitDefEqProofs [avF, hf, hg, hx, hx1, hd, hd', e1, e2, e3, e4, hr, hmod, hmod', h58, wv, wf, ws, wk, hbne]; rfl) ?_ | with_reducible refine wp_seal (by simp -dsimp -implicitDefEqProofs [avF, hf, hg, hx, hx1, hd, hd', e1, e2, e3, e4, hr, hmod, hmod', h58, wv, wf, ws, wk, hbne]; rfl) ?_ | with_reducible refine wp_blockS ?_ | with_reducible refine wp_skip' ?_ | with_reducible refine wp_ret' ?_ | with_reducible refine wp_exit' ?_ | with_reducible refine wp_drop (wp_eqT (by simp -dsimp -implicitDefEqProofs [avF, hf, hg, hx, hx1, hd, hd', e1, e2, e3, e4, hr, hmod, hmod', h58, wv, wf, ws, wk, hbne]; rfl) ?_) | with_reducible refine wp_block' ?_
            | with_reducible refine wp_condVS (by simp -dsimp -implicitDefEqProofs [avF, hf, hg, hx, hx1, hd, hd', e1, e2, e3, e4, hr, hmod, hmod', h58, wv, wf, ws, wk, hbne]; rfl) ?_
            | with_reducible refine wp_condV (by simp -dsimp -implicitDefEqProofs [avF, hf, hg, hx, hx1, hd, hd', e1, e2, e3, e4, hr, hmod, hmod', h58, wv, wf, ws, wk, hbne]; rfl) ?_
            | with_reducible refine cond_t ?_ | with_reducible refine cond_f ?_ | with_reducible refine cond_v (fun h => ?_) (fun h => ?_)
            | with_reducible refine post_then ?_ | with_reducible refine post_thenE ?_ | with_reducible refine post_thenP ?_ | with_reducible refine post_blkP ?_ | with_reducible refine post_thenR ?_ | with_reducible refine post_blkN ?_ | with_reducible refine post_blkE ?_ | with_reducible refine post_blkF rfl ?_ | with_reducible refine post_blkR ?_
            | with_reducible refine seg_eval (by simp -dsimp -implicitDefEqProofs [avF, hf, hg, hx, hx1, hd, hd', e1, e2, e3, e4, hr, hmod, hmod', h58, wv, wf, ws, wk, hbne]; rfl) ?_
        all_goals first
          | omega
          | exact hsz1
          | exact post_fin rfl rfl ⟨[], [], rfl, rfl, rfl, rfl⟩
          | trace_state
end Go.Proofs.Ytbhbpahbopjfeaa.Am
