import Derived.Test.YtbhbpahbopjfeaaF25
import Derived.Test.YtbhbpahbopjfeaaAmI
namespace Go.Proofs.Ytbhbpahbopjfeaa.Am
set_option linter.unusedSimpArgs false
set_option linter.unusedVariables false
open Go Go.Proofs
attribute [local irreducible] wpA

theorem enc_beq {f g : Frm} (h1 : rightB f = true) (h2 : rightB g = true) (o1 : 0 ≤ f.from_) (o2 : 0 ≤ g.from_) :
    ((⟨(enc (frmL f)).toArray⟩ : ByteArray) == ⟨(enc (frmL g)).toArray⟩) = (f.view == g.view && (f.from_ == g.from_ && (f.seq == g.seq && (f.kind == g.kind && f.body == g.body)))) := by
  rw [Bool.eq_iff_iff, beq_bytes]
  simp only [Bool.and_eq_true, beq_iff_eq, beq_bytes]
  constructor
  · intro h
    have := congrArg tb h
    rw [tb_mk, tb_mk] at this
    have := frm_inj h1 h2 o1 o2 this
    subst this
    simp
  · intro h
    have : f = g := by cases f; cases g; simp only [Frm.mk.injEq]; exact h
    rw [this]
theorem enc_bne {f g : Frm} (h1 : rightB f = true) (h2 : rightB g = true) (o1 : 0 ≤ f.from_) (o2 : 0 ≤ g.from_) (hn : f ≠ g) :
    ((⟨(enc (frmL f)).toArray⟩ : ByteArray) != ⟨(enc (frmL g)).toArray⟩) = true := by
  rw [bne, Bool.not_eq_true', ← Bool.not_eq_true, beq_bytes]
  intro h
  have := congrArg tb h
  rw [tb_mk, tb_mk] at this
  exact hn (frm_inj h1 h2 o1 o2 this)
theorem ba_self (t : ByteArray) : (t == t) = true := (beq_bytes t t).2 rfl

def spFrBytes : Spec
  | [.agg [.v (.int .i64 _), .v (.int .u8 from_), .v (.int .i64 _), .v (.int .i64 _), .v (.string _)], .fsl 1 es], [] =>
    (inB es).bind fun _ => if 0 ≤ from_ then some (.ret (.v (.bool true)), []) else none
  | _, _ => none

set_option maxHeartbeats 8000000 in
theorem frameBytes_ok : CallOk Try.prog 11 spFrBytes := by
  refine ok_11 E25c_ok spFrBytes fun args mem r mem1 h => ?_
  unfold spFrBytes at h
  split at h
  case h_2 => cases h
  rename_i view from_ seq kind body es
  obtain ⟨b, hb, h2⟩ := Option.bind_eq_some_iff.1 h
  clear h
  have := inB_some es b hb
  subst this
  clear hb
  obtain ⟨hx, h3⟩ := if_some h2
  clear h2
  cases h3
  generalize hf : Frm.mk view from_ seq kind body = f
  have s1 := ba_self ⟨(frB f).toArray⟩
  have s2 := ba_self (frF b).body
  unfold ac_11
  repeat' first
      | with_reducible refine wp_regionS (seg_eval (by simp -dsimp -implicitDefEqProofs [avF, hf, hx, s1, s2, eqCells]; rfl) ?_)
      | with_reducible refine wp_region (seg_eval (by simp -dsimp -implicitDefEqProofs [avF, hf, hx, s1, s2, eqCells]; rfl) ?_)
      | with_reducible refine wp_drawsS (seg_eval (by simp -dsimp -implicitDefEqProofs [avF, hf, hx, s1, s2, eqCells]; rfl) ?_)
      | with_reducible refine wp_draws (seg_eval (by simp -dsimp -implicitDefEqProofs [avF, hf, hx, s1, s2, eqCells]; rfl) ?_)
      | with_reducible refine seg_fin ?_
      | with_reducible refine seg_pan ?_
      | with_reducible refine seg_both ?_ ?_
      | with_reducible refine seg_case (fun x h => ?_) (fun h => ?_)
      | with_reducible refine seg_gate (fun h => ?_) (fun h => ?_)
      | with_reducible refine seg_need ?_ ?_
      | with_reducible refine wp_assoc ?_ | with_reducible refine wp_skipS ?_ | with_reducible refine wp_retS ?_ | with_reducible refine wp_exitS ?_ | with_reducible refine wp_dropS (wp_eqT (by simp -dsimp -implicitDefEqProofs [avF, hf, hx, s1, s2, eqCells]; rfl) ?_) | with_reducible refine wp_sealS (by simp -dsimp -implicitDefEqProofs [avF, hf, hx, s1, s2, eqCells]; rfl) ?_ | with_reducible refine wp_seal (by simp -dsimp -implicitDefEqProofs [avF, hf, hx, s1, s2, eqCells]; rfl) ?_ | with_reducible refine wp_blockS ?_ | with_reducible refine wp_skip' ?_ | with_reducible refine wp_ret' ?_ | with_reducible refine wp_exit' ?_ | with_reducible refine wp_drop (wp_eqT (by simp -dsimp -implicitDefEqProofs [avF, hf, hx, s1, s2, eqCells]; rfl) ?_) | with_reducible refine wp_block' ?_
      | with_reducible refine wp_condVS (by simp -dsimp -implicitDefEqProofs [avF, hf, hx, s1, s2, eqCells]; rfl) ?_
      | with_reducible refine wp_condV (by simp -dsimp -implicitDefEqProofs [avF, hf, hx, s1, s2, eqCells]; rfl) ?_
      | with_reducible refine cond_t ?_ | with_reducible refine cond_f ?_ | with_reducible refine cond_v (fun h => ?_) (fun h => ?_)
      | with_reducible refine post_then ?_ | with_reducible refine post_thenE ?_ | with_reducible refine post_thenP ?_ | with_reducible refine post_blkP ?_ | with_reducible refine post_thenR ?_ | with_reducible refine post_blkN ?_ | with_reducible refine post_blkE ?_ | with_reducible refine post_blkF rfl ?_ | with_reducible refine post_blkR ?_
      | with_reducible refine seg_eval (by simp -dsimp -implicitDefEqProofs [avF, hf, hx, s1, s2, eqCells]; rfl) ?_
  all_goals first
    | omega
    | exact post_fin rfl rfl ⟨[], [], rfl, rfl, rfl, rfl⟩
    | trace_state

def spFrBack : Spec
  | [.agg [.v (.int .i64 _), .v (.int .u8 from_), .v (.int .i64 _), .v (.int .i64 _), .v (.string _)], .agg [.v (.int .i64 _), .v (.int .u8 from2), .v (.int .i64 _), .v (.int .i64 _), .v (.string _)], .fsl 1 es], [] =>
    (inB es).bind fun _ => if 0 ≤ from_ ∧ 0 ≤ from2 then some (.ret (.v (.bool true)), []) else none
  | _, _ => none

set_option maxHeartbeats 16000000 in
theorem frameBack_ok : CallOk Try.prog 12 spFrBack := by
  refine ok_12 E25c_ok spFrBack fun args mem r mem1 h => ?_
  unfold spFrBack at h
  split at h
  case h_2 => cases h
  rename_i view from_ seq kind body view2 from2 seq2 kind2 body2 es
  obtain ⟨b, hb, h2⟩ := Option.bind_eq_some_iff.1 h
  clear h
  have := inB_some es b hb
  subst this
  clear hb
  obtain ⟨⟨hx, hy⟩, h3⟩ := if_some h2
  clear h2
  cases h3
  generalize hf : Frm.mk view from_ seq kind body = f
  generalize hg : Frm.mk view2 from2 seq2 kind2 body2 = g
  have p1 : f.view = view := by subst hf; rfl
  have p2 : f.from_ = from_ := by subst hf; rfl
  have p3 : f.seq = seq := by subst hf; rfl
  have p4 : f.kind = kind := by subst hf; rfl
  have p5 : f.body = body := by subst hf; rfl
  have r1 : g.view = view2 := by subst hg; rfl
  have r2 : g.from_ = from2 := by subst hg; rfl
  have r3 : g.seq = seq2 := by subst hg; rfl
  have r4 : g.kind = kind2 := by subst hg; rfl
  have r5 : g.body = body2 := by subst hg; rfl
  have hs := ba_self body
  have hs' : (body != body) = false := by rw [bne, hs]; rfl
  unfold ac_12
  -- what the bytes are
  cases hd : frDec b with
  | none =>
    obtain ⟨d1, d2⟩ := fr_no hd
    cases hr : rightB f with
    | false =>
      have e1 : frB f = [] := by simp [frB, hr]
      have e2 : frE f = 2 := by simp [frE, hr]
      repeat' first
          | with_reducible refine wp_regionS (seg_eval (by simp -dsimp -implicitDefEqProofs [avF, hf, hg, hx, hy, d1, d2, e1, e2]; rfl) ?_)
          | with_reducible refine wp_region (seg_eval (by simp -dsimp -implicitDefEqProofs [avF, hf, hg, hx, hy, d1, d2, e1, e2]; rfl) ?_)
          | with_reducible refine wp_drawsS (seg_eval (by simp -dsimp -implicitDefEqProofs [avF, hf, hg, hx, hy, d1, d2, e1, e2]; rfl) ?_)
          | with_reducible refine wp_draws (seg_eval (by simp -dsimp -implicitDefEqProofs [avF, hf, hg, hx, hy, d1, d2, e1, e2]; rfl) ?_)
          | with_reducible refine seg_fin ?_
          | with_reducible refine seg_pan ?_
          | with_reducible refine seg_both ?_ ?_
          | with_reducible refine seg_case (fun x h => ?_) (fun h => ?_)
          | with_reducible refine seg_gate (fun h => ?_) (fun h => ?_)
          | with_reducible refine seg_need ?_ ?_
          | with_reducible refine wp_assoc ?_ | with_reducible refine wp_skipS ?_ | with_reducible refine wp_retS ?_ | with_reducible refine wp_exitS ?_ | with_reducible refine wp_dropS (wp_eqT (by simp -dsimp -implicitDefEqProofs [avF, hf, hg, hx, hy, d1, d2, e1, e2]; rfl) ?_) | with_reducible refine wp_sealS (by simp -dsimp -implicitDefEqProofs [avF, hf, hg, hx, hy, d1, d2, e1, e2]; rfl) ?_ | with_reducible refine wp_seal (by simp -dsimp -implicitDefEqProofs [avF, hf, hg, hx, hy, d1, d2, e1, e2]; rfl) ?_ | with_reducible refine wp_blockS ?_ | with_reducible refine wp_skip' ?_ | with_reducible refine wp_ret' ?_ | with_reducible refine wp_exit' ?_ | with_reducible refine wp_drop (wp_eqT (by simp -dsimp -implicitDefEqProofs [avF, hf, hg, hx, hy, d1, d2, e1, e2]; rfl) ?_) | with_reducible refine wp_block' ?_
          | with_reducible refine wp_condVS (by simp -dsimp -implicitDefEqProofs [avF, hf, hg, hx, hy, d1, d2, e1, e2]; rfl) ?_
          | with_reducible refine wp_condV (by simp -dsimp -implicitDefEqProofs [avF, hf, hg, hx, hy, d1, d2, e1, e2]; rfl) ?_
          | with_reducible refine cond_t ?_ | with_reducible refine cond_f ?_ | with_reducible refine cond_v (fun h => ?_) (fun h => ?_)
          | with_reducible refine post_then ?_ | with_reducible refine post_thenE ?_ | with_reducible refine post_thenP ?_ | with_reducible refine post_blkP ?_ | with_reducible refine post_thenR ?_ | with_reducible refine post_blkN ?_ | with_reducible refine post_blkE ?_ | with_reducible refine post_blkF rfl ?_ | with_reducible refine post_blkR ?_
          | with_reducible refine seg_eval (by simp -dsimp -implicitDefEqProofs [avF, hf, hg, hx, hy, d1, d2, e1, e2]; rfl) ?_
      all_goals first
        | omega
        | exact post_fin rfl rfl ⟨[], [], rfl, rfl, rfl, rfl⟩
        | trace_state
    | true =>
      have e1 : frB f = enc (frmL f) := by simp [frB, hr]
      have e2 : frE f = 0 := by simp [frE, hr]
      obtain ⟨k1, k2⟩ := fr_yes (frDec_enc hr (by omega))
      have hz := frm_size hr
      have hz1 : decide (1000 < ((enc (frmL f)).length : Int)) = false := by rw [decide_eq_false_iff_not]; omega
      have hz2 : decide (1000 < (enc (frmL f)).length) = false := by rw [decide_eq_false_iff_not]; omega
      cases hr2 : rightB g with
      | false =>
        have e3 : frB g = [] := by simp [frB, hr2]
        have e4 : frE g = 2 := by simp [frE, hr2]
        repeat' first
            | with_reducible refine wp_regionS (seg_eval (by simp -dsimp -implicitDefEqProofs [avF, hf, hg, hx, hy, d1, d2, e1, e2, e3, e4, k1, k2, hz1, hz2, eqCells, p1, p2, p3, p4, p5, hs, hs']; rfl) ?_)
            | with_reducible refine wp_region (seg_eval (by simp -dsimp -implicitDefEqProofs [avF, hf, hg, hx, hy, d1, d2, e1, e2, e3, e4, k1, k2, hz1, hz2, eqCells, p1, p2, p3, p4, p5, hs, hs']; rfl) ?_)
            | with_reducible refine wp_drawsS (seg_eval (by simp -dsimp -implicitDefEqProofs [avF, hf, hg, hx, hy, d1, d2, e1, e2, e3, e4, k1, k2, hz1, hz2, eqCells, p1, p2, p3, p4, p5, hs, hs']; rfl) ?_)
            | with_reducible refine wp_draws (seg_eval (by simp -dsimp -implicitDefEqProofs [avF, hf, hg, hx, hy, d1, d2, e1, e2, e3, e4, k1, k2, hz1, hz2, eqCells, p1, p2, p3, p4, p5, hs, hs']; rfl) ?_)
            | with_reducible refine seg_fin ?_
            | with_reducible refine seg_pan ?_
            | with_reducible refine seg_both ?_ ?_
            | with_reducible refine seg_case (fun x h => ?_) (fun h => ?_)
            | with_reducible refine seg_gate (fun h => ?_) (fun h => ?_)
            | with_reducible refine seg_need ?_ ?_
            | with_reducible refine wp_assoc ?_ | with_reducible refine wp_skipS ?_ | with_reducible refine wp_retS ?_ | with_reducible refine wp_exitS ?_ | with_reducible refine wp_dropS (wp_eqT (by simp -dsimp -implicitDefEqProofs [avF, hf, hg, hx, hy, d1, d2, e1, e2, e3, e4, k1, k2, hz1, hz2, eqCells, p1, p2, p3, p4, p5, hs, hs']; rfl) ?_) | with_reducible refine wp_sealS (by simp -dsimp -implicitDefEqProofs [avF, hf, hg, hx, hy, d1, d2, e1, e2, e3, e4, k1, k2, hz1, hz2, eqCells, p1, p2, p3, p4, p5, hs, hs']; rfl) ?_ | with_reducible refine wp_seal (by simp -dsimp -implicitDefEqProofs [avF, hf, hg, hx, hy, d1, d2, e1, e2, e3, e4, k1, k2, hz1, hz2, eqCells, p1, p2, p3, p4, p5, hs, hs']; rfl) ?_ | with_reducible refine wp_blockS ?_ | with_reducible refine wp_skip' ?_ | with_reducible refine wp_ret' ?_ | with_reducible refine wp_exit' ?_ | with_reducible refine wp_drop (wp_eqT (by simp -dsimp -implicitDefEqProofs [avF, hf, hg, hx, hy, d1, d2, e1, e2, e3, e4, k1, k2, hz1, hz2, eqCells, p1, p2, p3, p4, p5, hs, hs']; rfl) ?_) | with_reducible refine wp_block' ?_
            | with_reducible refine wp_condVS (by simp -dsimp -implicitDefEqProofs [avF, hf, hg, hx, hy, d1, d2, e1, e2, e3, e4, k1, k2, hz1, hz2, eqCells, p1, p2, p3, p4, p5, hs, hs']; rfl) ?_
            | with_reducible refine wp_condV (by simp -dsimp -implicitDefEqProofs [avF, hf, hg, hx, hy, d1, d2, e1, e2, e3, e4, k1, k2, hz1, hz2, eqCells, p1, p2, p3, p4, p5, hs, hs']; rfl) ?_
            | with_reducible refine cond_t ?_ | with_reducible refine cond_f ?_ | with_reducible refine cond_v (fun h => ?_) (fun h => ?_)
            | with_reducible refine post_then ?_ | with_reducible refine post_thenE ?_ | with_reducible refine post_thenP ?_ | with_reducible refine post_blkP ?_ | with_reducible refine post_thenR ?_ | with_reducible refine post_blkN ?_ | with_reducible refine post_blkE ?_ | with_reducible refine post_blkF rfl ?_ | with_reducible refine post_blkR ?_
            | with_reducible refine seg_eval (by simp -dsimp -implicitDefEqProofs [avF, hf, hg, hx, hy, d1, d2, e1, e2, e3, e4, k1, k2, hz1, hz2, eqCells, p1, p2, p3, p4, p5, hs, hs']; rfl) ?_
        all_goals first
          | omega
          | exact post_fin rfl rfl ⟨[], [], rfl, rfl, rfl, rfl⟩
          | trace_state
      | true =>
        have e3 : frB g = enc (frmL g) := by simp [frB, hr2]
        have e4 : frE g = 0 := by simp [frE, hr2]
        have he := enc_beq hr hr2 (by omega) (by omega)
        rw [p1, p2, p3, p4, p5, r1, r2, r3, r4, r5] at he
        repeat' first
            | with_reducible refine wp_regionS (seg_eval (by simp -dsimp -implicitDefEqProofs [avF, hf, hg, hx, hy, d1, d2, e1, e2, e3, e4, k1, k2, hz1, hz2, eqCells, p1, p2, p3, p4, p5, hs, hs', he]; rfl) ?_)
            | with_reducible refine wp_region (seg_eval (by simp -dsimp -implicitDefEqProofs [avF, hf, hg, hx, hy, d1, d2, e1, e2, e3, e4, k1, k2, hz1, hz2, eqCells, p1, p2, p3, p4, p5, hs, hs', he]; rfl) ?_)
            | with_reducible refine wp_drawsS (seg_eval (by simp -dsimp -implicitDefEqProofs [avF, hf, hg, hx, hy, d1, d2, e1, e2, e3, e4, k1, k2, hz1, hz2, eqCells, p1, p2, p3, p4, p5, hs, hs', he]; rfl) ?_)
            | with_reducible refine wp_draws (seg_eval (by simp -dsimp -implicitDefEqProofs [avF, hf, hg, hx, hy, d1, d2, e1, e2, e3, e4, k1, k2, hz1, hz2, eqCells, p1, p2, p3, p4, p5, hs, hs', he]; rfl) ?_)
            | with_reducible refine seg_fin ?_
            | with_reducible refine seg_pan ?_
            | with_reducible refine seg_both ?_ ?_
            | with_reducible refine seg_case (fun x h => ?_) (fun h => ?_)
            | with_reducible refine seg_gate (fun h => ?_) (fun h => ?_)
            | with_reducible refine seg_need ?_ ?_
            | with_reducible refine wp_assoc ?_ | with_reducible refine wp_skipS ?_ | with_reducible refine wp_retS ?_ | with_reducible refine wp_exitS ?_ | with_reducible refine wp_dropS (wp_eqT (by simp -dsimp -implicitDefEqProofs [avF, hf, hg, hx, hy, d1, d2, e1, e2, e3, e4, k1, k2, hz1, hz2, eqCells, p1, p2, p3, p4, p5, hs, hs', he]; rfl) ?_) | with_reducible refine wp_sealS (by simp -dsimp -implicitDefEqProofs [avF, hf, hg, hx, hy, d1, d2, e1, e2, e3, e4, k1, k2, hz1, hz2, eqCells, p1, p2, p3, p4, p5, hs, hs', he]; rfl) ?_ | with_reducible refine wp_seal (by simp -dsimp -implicitDefEqProofs [avF, hf, hg, hx, hy, d1, d2, e1, e2, e3, e4, k1, k2, hz1, hz2, eqCells, p1, p2, p3, p4, p5, hs, hs', he]; rfl) ?_ | with_reducible refine wp_blockS ?_ | with_reducible refine wp_skip' ?_ | with_reducible refine wp_ret' ?_ | with_reducible refine wp_exit' ?_ | with_reducible refine wp_drop (wp_eqT (by simp -dsimp -implicitDefEqProofs [avF, hf, hg, hx, hy, d1, d2, e1, e2, e3, e4, k1, k2, hz1, hz2, eqCells, p1, p2, p3, p4, p5, hs, hs', he]; rfl) ?_) | with_reducible refine wp_block' ?_
            | with_reducible refine wp_condVS (by simp -dsimp -implicitDefEqProofs [avF, hf, hg, hx, hy, d1, d2, e1, e2, e3, e4, k1, k2, hz1, hz2, eqCells, p1, p2, p3, p4, p5, hs, hs', he]; rfl) ?_
            | with_reducible refine wp_condV (by simp -dsimp -implicitDefEqProofs [avF, hf, hg, hx, hy, d1, d2, e1, e2, e3, e4, k1, k2, hz1, hz2, eqCells, p1, p2, p3, p4, p5, hs, hs', he]; rfl) ?_
            | with_reducible refine cond_t ?_ | with_reducible refine cond_f ?_ | with_reducible refine cond_v (fun h => ?_) (fun h => ?_)
            | with_reducible refine post_then ?_ | with_reducible refine post_thenE ?_ | with_reducible refine post_thenP ?_ | with_reducible refine post_blkP ?_ | with_reducible refine post_thenR ?_ | with_reducible refine post_blkN ?_ | with_reducible refine post_blkE ?_ | with_reducible refine post_blkF rfl ?_ | with_reducible refine post_blkR ?_
            | with_reducible refine seg_eval (by simp -dsimp -implicitDefEqProofs [avF, hf, hg, hx, hy, d1, d2, e1, e2, e3, e4, k1, k2, hz1, hz2, eqCells, p1, p2, p3, p4, p5, hs, hs', he]; rfl) ?_
        all_goals first
          | omega
          | exact post_fin rfl rfl ⟨[], [], rfl, rfl, rfl, rfl⟩
          | trace_state
  | some z =>
    obtain ⟨d1, d2⟩ := fr_yes hd
    obtain ⟨z1, z2, z3⟩ := enc_frDec hd
    have z4 : frB z = b := by rw [← z3]; simp [frB, z1]
    have z5 : frE z = 0 := by simp [frE, z1]
    have z6 : ((⟨b.toArray⟩ : ByteArray) != ⟨b.toArray⟩) = false := by rw [bne, ba_self]; rfl
    have z7 : Frm.mk z.view z.from_ z.seq z.kind z.body = z := rfl
    cases hr : rightB f with
    | false =>
      have e1 : frB f = [] := by simp [frB, hr]
      have e2 : frE f = 2 := by simp [frE, hr]
      repeat' first
          | with_reducible refine wp_regionS (seg_eval (by simp -dsimp -implicitDefEqProofs [avF, hf, hg, hx, hy, d1, d2, e1, e2, z2, z4, z5, z6, z7]; rfl) ?_)
          | with_reducible refine wp_region (seg_eval (by simp -dsimp -implicitDefEqProofs [avF, hf, hg, hx, hy, d1, d2, e1, e2, z2, z4, z5, z6, z7]; rfl) ?_)
          | with_reducible refine wp_drawsS (seg_eval (by simp -dsimp -implicitDefEqProofs [avF, hf, hg, hx, hy, d1, d2, e1, e2, z2, z4, z5, z6, z7]; rfl) ?_)
          | with_reducible refine wp_draws (seg_eval (by simp -dsimp -implicitDefEqProofs [avF, hf, hg, hx, hy, d1, d2, e1, e2, z2, z4, z5, z6, z7]; rfl) ?_)
          | with_reducible refine seg_fin ?_
          | with_reducible refine seg_pan ?_
          | with_reducible refine seg_both ?_ ?_
          | with_reducible refine seg_case (fun x h => ?_) (fun h => ?_)
          | with_reducible refine seg_gate (fun h => ?_) (fun h => ?_)
          | with_reducible refine seg_need ?_ ?_
          | with_reducible refine wp_assoc ?_ | with_reducible refine wp_skipS ?_ | with_reducible refine wp_retS ?_ | with_reducible refine wp_exitS ?_ | with_reducible refine wp_dropS (wp_eqT (by simp -dsimp -implicitDefEqProofs [avF, hf, hg, hx, hy, d1, d2, e1, e2, z2, z4, z5, z6, z7]; rfl) ?_) | with_reducible refine wp_sealS (by simp -dsimp -implicitDefEqProofs [avF, hf, hg, hx, hy, d1, d2, e1, e2, z2, z4, z5, z6, z7]; rfl) ?_ | with_reducible refine wp_seal (by simp -dsimp -implicitDefEqProofs [avF, hf, hg, hx, hy, d1, d2, e1, e2, z2, z4, z5, z6, z7]; rfl) ?_ | with_reducible refine wp_blockS ?_ | with_reducible refine wp_skip' ?_ | with_reducible refine wp_ret' ?_ | with_reducible refine wp_exit' ?_ | with_reducible refine wp_drop (wp_eqT (by simp -dsimp -implicitDefEqProofs [avF, hf, hg, hx, hy, d1, d2, e1, e2, z2, z4, z5, z6, z7]; rfl) ?_) | with_reducible refine wp_block' ?_
          | with_reducible refine wp_condVS (by simp -dsimp -implicitDefEqProofs [avF, hf, hg, hx, hy, d1, d2, e1, e2, z2, z4, z5, z6, z7]; rfl) ?_
          | with_reducible refine wp_condV (by simp -dsimp -implicitDefEqProofs [avF, hf, hg, hx, hy, d1, d2, e1, e2, z2, z4, z5, z6, z7]; rfl) ?_
          | with_reducible refine cond_t ?_ | with_reducible refine cond_f ?_ | with_reducible refine cond_v (fun h => ?_) (fun h => ?_)
          | with_reducible refine post_then ?_ | with_reducible refine post_thenE ?_ | with_reducible refine post_thenP ?_ | with_reducible refine post_blkP ?_ | with_reducible refine post_thenR ?_ | with_reducible refine post_blkN ?_ | with_reducible refine post_blkE ?_ | with_reducible refine post_blkF rfl ?_ | with_reducible refine post_blkR ?_
          | with_reducible refine seg_eval (by simp -dsimp -implicitDefEqProofs [avF, hf, hg, hx, hy, d1, d2, e1, e2, z2, z4, z5, z6, z7]; rfl) ?_
      all_goals first
        | omega
        | exact post_fin rfl rfl ⟨[], [], rfl, rfl, rfl, rfl⟩
        | trace_state
    | true =>
      have e1 : frB f = enc (frmL f) := by simp [frB, hr]
      have e2 : frE f = 0 := by simp [frE, hr]
      obtain ⟨k1, k2⟩ := fr_yes (frDec_enc hr (by omega))
      have hz := frm_size hr
      have hz1 : decide (1000 < ((enc (frmL f)).length : Int)) = false := by rw [decide_eq_false_iff_not]; omega
      have hz2 : decide (1000 < (enc (frmL f)).length) = false := by rw [decide_eq_false_iff_not]; omega
      cases hr2 : rightB g with
      | false =>
        have e3 : frB g = [] := by simp [frB, hr2]
        have e4 : frE g = 2 := by simp [frE, hr2]
        repeat' first
            | with_reducible refine wp_regionS (seg_eval (by simp -dsimp -implicitDefEqProofs [avF, hf, hg, hx, hy, d1, d2, e1, e2, e3, e4, k1, k2, hz1, hz2, eqCells, p1, p2, p3, p4, p5, hs, hs', z2, z4, z5, z6, z7]; rfl) ?_)
            | with_reducible refine wp_region (seg_eval (by simp -dsimp -implicitDefEqProofs [avF, hf, hg, hx, hy, d1, d2, e1, e2, e3, e4, k1, k2, hz1, hz2, eqCells, p1, p2, p3, p4, p5, hs, hs', z2, z4, z5, z6, z7]; rfl) ?_)
            | with_reducible refine wp_drawsS (seg_eval (by simp -dsimp -implicitDefEqProofs [avF, hf, hg, hx, hy, d1, d2, e1, e2, e3, e4, k1, k2, hz1, hz2, eqCells, p1, p2, p3, p4, p5, hs, hs', z2, z4, z5, z6, z7]; rfl) ?_)
            | with_reducible refine wp_draws (seg_eval (by simp -dsimp -implicitDefEqProofs [avF, hf, hg, hx, hy, d1, d2, e1, e2, e3, e4, k1, k2, hz1, hz2, eqCells, p1, p2, p3, p4, p5, hs, hs', z2, z4, z5, z6, z7]; rfl) ?_)
            | with_reducible refine seg_fin ?_
            | with_reducible refine seg_pan ?_
            | with_reducible refine seg_both ?_ ?_
            | with_reducible refine seg_case (fun x h => ?_) (fun h => ?_)
            | with_reducible refine seg_gate (fun h => ?_) (fun h => ?_)
            | with_reducible refine seg_need ?_ ?_
            | with_reducible refine wp_assoc ?_ | with_reducible refine wp_skipS ?_ | with_reducible refine wp_retS ?_ | with_reducible refine wp_exitS ?_ | with_reducible refine wp_dropS (wp_eqT (by simp -dsimp -implicitDefEqProofs [avF, hf, hg, hx, hy, d1, d2, e1, e2, e3, e4, k1, k2, hz1, hz2, eqCells, p1, p2, p3, p4, p5, hs, hs', z2, z4, z5, z6, z7]; rfl) ?_) | with_reducible refine wp_sealS (by simp -dsimp -implicitDefEqProofs [avF, hf, hg, hx, hy, d1, d2, e1, e2, e3, e4, k1, k2, hz1, hz2, eqCells, p1, p2, p3, p4, p5, hs, hs', z2, z4, z5, z6, z7]; rfl) ?_ | with_reducible refine wp_seal (by simp -dsimp -implicitDefEqProofs [avF, hf, hg, hx, hy, d1, d2, e1, e2, e3, e4, k1, k2, hz1, hz2, eqCells, p1, p2, p3, p4, p5, hs, hs', z2, z4, z5, z6, z7]; rfl) ?_ | with_reducible refine wp_blockS ?_ | with_reducible refine wp_skip' ?_ | with_reducible refine wp_ret' ?_ | with_reducible refine wp_exit' ?_ | with_reducible refine wp_drop (wp_eqT (by simp -dsimp -implicitDefEqProofs [avF, hf, hg, hx, hy, d1, d2, e1, e2, e3, e4, k1, k2, hz1, hz2, eqCells, p1, p2, p3, p4, p5, hs, hs', z2, z4, z5, z6, z7]; rfl) ?_) | with_reducible refine wp_block' ?_
            | with_reducible refine wp_condVS (by simp -dsimp -implicitDefEqProofs [avF, hf, hg, hx, hy, d1, d2, e1, e2, e3, e4, k1, k2, hz1, hz2, eqCells, p1, p2, p3, p4, p5, hs, hs', z2, z4, z5, z6, z7]; rfl) ?_
            | with_reducible refine wp_condV (by simp -dsimp -implicitDefEqProofs [avF, hf, hg, hx, hy, d1, d2, e1, e2, e3, e4, k1, k2, hz1, hz2, eqCells, p1, p2, p3, p4, p5, hs, hs', z2, z4, z5, z6, z7]; rfl) ?_
            | with_reducible refine cond_t ?_ | with_reducible refine cond_f ?_ | with_reducible refine cond_v (fun h => ?_) (fun h => ?_)
            | with_reducible refine post_then ?_ | with_reducible refine post_thenE ?_ | with_reducible refine post_thenP ?_ | with_reducible refine post_blkP ?_ | with_reducible refine post_thenR ?_ | with_reducible refine post_blkN ?_ | with_reducible refine post_blkE ?_ | with_reducible refine post_blkF rfl ?_ | with_reducible refine post_blkR ?_
            | with_reducible refine seg_eval (by simp -dsimp -implicitDefEqProofs [avF, hf, hg, hx, hy, d1, d2, e1, e2, e3, e4, k1, k2, hz1, hz2, eqCells, p1, p2, p3, p4, p5, hs, hs', z2, z4, z5, z6, z7]; rfl) ?_
        all_goals first
          | omega
          | exact post_fin rfl rfl ⟨[], [], rfl, rfl, rfl, rfl⟩
          | trace_state
      | true =>
        have e3 : frB g = enc (frmL g) := by simp [frB, hr2]
        have e4 : frE g = 0 := by simp [frE, hr2]
        have he := enc_beq hr hr2 (by omega) (by omega)
        rw [p1, p2, p3, p4, p5, r1, r2, r3, r4, r5] at he
        repeat' first
            | with_reducible refine wp_regionS (seg_eval (by simp -dsimp -implicitDefEqProofs [avF, hf, hg, hx, hy, d1, d2, e1, e2, e3, e4, k1, k2, hz1, hz2, eqCells, p1, p2, p3, p4, p5, hs, hs', he, z2, z4, z5, z6, z7]; rfl) ?_)
            | with_reducible refine wp_region (seg_eval (by simp -dsimp -implicitDefEqProofs [avF, hf, hg, hx, hy, d1, d2, e1, e2, e3, e4, k1, k2, hz1, hz2, eqCells, p1, p2, p3, p4, p5, hs, hs', he, z2, z4, z5, z6, z7]; rfl) ?_)
            | with_reducible refine wp_drawsS (seg_eval (by simp -dsimp -implicitDefEqProofs [avF, hf, hg, hx, hy, d1, d2, e1, e2, e3, e4, k1, k2, hz1, hz2, eqCells, p1, p2, p3, p4, p5, hs, hs', he, z2, z4, z5, z6, z7]; rfl) ?_)
            | with_reducible refine wp_draws (seg_eval (by simp -dsimp -implicitDefEqProofs [avF, hf, hg, hx, hy, d1, d2, e1, e2, e3, e4, k1, k2, hz1, hz2, eqCells, p1, p2, p3, p4, p5, hs, hs', he, z2, z4, z5, z6, z7]; rfl) ?_)
            | with_reducible refine seg_fin ?_
            | with_reducible refine seg_pan ?_
            | with_reducible refine seg_both ?_ ?_
            | with_reducible refine seg_case (fun x h => ?_) (fun h => ?_)
            | with_reducible refine seg_gate (fun h => ?_) (fun h => ?_)
            | with_reducible refine seg_need ?_ ?_
            | with_reducible refine wp_assoc ?_ | with_reducible refine wp_skipS ?_ | with_reducible refine wp_retS ?_ | with_reducible refine wp_exitS ?_ | with_reducible refine wp_dropS (wp_eqT (by simp -dsimp -implicitDefEqProofs [avF, hf, hg, hx, hy, d1, d2, e1, e2, e3, e4, k1, k2, hz1, hz2, eqCells, p1, p2, p3, p4, p5, hs, hs', he, z2, z4, z5, z6, z7]; rfl) ?_) | with_reducible refine wp_sealS (by simp -dsimp -implicitDefEqProofs [avF, hf, hg, hx, hy, d1, d2, e1, e2, e3, e4, k1, k2, hz1, hz2, eqCells, p1, p2, p3, p4, p5, hs, hs', he, z2, z4, z5, z6, z7]; rfl) ?_ | with_reducible refine wp_seal (by simp -dsimp -implicitDefEqProofs [avF, hf, hg, hx, hy, d1, d2, e1, e2, e3, e4, k1, k2, hz1, hz2, eqCells, p1, p2, p3, p4, p5, hs, hs', he, z2, z4, z5, z6, z7]; rfl) ?_ | with_reducible refine wp_blockS ?_ | with_reducible refine wp_skip' ?_ | with_reducible refine wp_ret' ?_ | with_reducible refine wp_exit' ?_ | with_reducible refine wp_drop (wp_eqT (by simp -dsimp -implicitDefEqProofs [avF, hf, hg, hx, hy, d1, d2, e1, e2, e3, e4, k1, k2, hz1, hz2, eqCells, p1, p2, p3, p4, p5, hs, hs', he, z2, z4, z5, z6, z7]; rfl) ?_) | with_reducible refine wp_block' ?_
            | with_reducible refine wp_condVS (by simp -dsimp -implicitDefEqProofs [avF, hf, hg, hx, hy, d1, d2, e1, e2, e3, e4, k1, k2, hz1, hz2, eqCells, p1, p2, p3, p4, p5, hs, hs', he, z2, z4, z5, z6, z7]; rfl) ?_
            | with_reducible refine wp_condV (by simp -dsimp -implicitDefEqProofs [avF, hf, hg, hx, hy, d1, d2, e1, e2, e3, e4, k1, k2, hz1, hz2, eqCells, p1, p2, p3, p4, p5, hs, hs', he, z2, z4, z5, z6, z7]; rfl) ?_
            | with_reducible refine cond_t ?_ | with_reducible refine cond_f ?_ | with_reducible refine cond_v (fun h => ?_) (fun h => ?_)
            | with_reducible refine post_then ?_ | with_reducible refine post_thenE ?_ | with_reducible refine post_thenP ?_ | with_reducible refine post_blkP ?_ | with_reducible refine post_thenR ?_ | with_reducible refine post_blkN ?_ | with_reducible refine post_blkE ?_ | with_reducible refine post_blkF rfl ?_ | with_reducible refine post_blkR ?_
            | with_reducible refine seg_eval (by simp -dsimp -implicitDefEqProofs [avF, hf, hg, hx, hy, d1, d2, e1, e2, e3, e4, k1, k2, hz1, hz2, eqCells, p1, p2, p3, p4, p5, hs, hs', he, z2, z4, z5, z6, z7]; rfl) ?_
        all_goals first
          | omega
          | exact post_fin rfl rfl ⟨[], [], rfl, rfl, rfl, rfl⟩
          | trace_state
end Go.Proofs.Ytbhbpahbopjfeaa.Am
