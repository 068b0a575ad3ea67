import Derived.Test.YtbhbpahbopjfeaaF23
namespace Go.Proofs.Ytbhbpahbopjfeaa.Am
set_option linter.unusedSimpArgs false
set_option linter.unusedVariables false
open Go Go.Proofs
attribute [local irreducible] wpA

def E24 : Env := E23.put 28 [] spFrE
theorem E24_ok : EnvOk Try.prog E24 := Env.put_ok _ E23_ok frEnc_ok
attribute [simp] E24 spFrE

set_option maxHeartbeats 4000000 in
theorem frEncR_ok : CallOk Try.prog 29 spFrE := by
  refine ok_29 E24_ok spFrE fun args mem r mem1 h => ?_
  unfold spFrE at h
  split at h
  case h_2 => cases h
  rename_i view from_ seq kind body
  obtain ⟨hx, h1⟩ := if_some h
  clear h
  cases h1
  generalize hf : Frm.mk view from_ seq kind body = f
  unfold ac_29
  cases hr : rightB f with
  | false =>
    have e1 : frB f = [] := by simp [frB, hr]
    have e2 : frE f = 2 := by simp [frE, hr]
    rw [e1, e2]
    repeat' first
        | with_reducible refine wp_regionS (seg_eval (by simp -dsimp -implicitDefEqProofs [hf, hr]; rfl) ?_)
        | with_reducible refine wp_region (seg_eval (by simp -dsimp -implicitDefEqProofs [hf, hr]; rfl) ?_)
        | with_reducible refine wp_drawsS (seg_eval (by simp -dsimp -implicitDefEqProofs [hf, hr]; rfl) ?_)
        | with_reducible refine wp_draws (seg_eval (by simp -dsimp -implicitDefEqProofs [hf, hr]; rfl) ?_)
        | with_reducible refine seg_fin ?_
        | with_reducible refine seg_pan ?_
        | with_reducible refine seg_both ?_ ?_
        | with_reducible refine seg_case (fun x h => ?_) (fun h => ?_)
        | with_reducible refine seg_gate (fun h => ?_) (fun h => ?_)
        | with_reducible refine seg_need ?_ ?_
        | with_reducible refine wp_assoc ?_ | with_reducible refine wp_skipS ?_ | with_reducible refine wp_retS ?_ | with_reducible refine wp_exitS ?_ | with_reducible refine wp_dropS (wp_eqT (by simp -dsimp -implicitDefEqProofs [hf, hr]; rfl) ?_) | with_reducible refine wp_sealS (by simp -dsimp -implicitDefEqProofs [hf, hr]; rfl) ?_ | with_reducible refine wp_seal (by simp -dsimp -implicitDefEqProofs [hf, hr]; rfl) ?_ | with_reducible refine wp_blockS ?_ | with_reducible refine wp_skip' ?_ | with_reducible refine wp_ret' ?_ | with_reducible refine wp_exit' ?_ | with_reducible refine wp_drop (wp_eqT (by simp -dsimp -implicitDefEqProofs [hf, hr]; rfl) ?_) | with_reducible refine wp_block' ?_
        | with_reducible refine wp_condVS (by simp -dsimp -implicitDefEqProofs [hf, hr]; rfl) ?_
        | with_reducible refine wp_condV (by simp -dsimp -implicitDefEqProofs [hf, hr]; rfl) ?_
        | with_reducible refine cond_t ?_ | with_reducible refine cond_f ?_ | with_reducible refine cond_v (fun h => ?_) (fun h => ?_)
        | with_reducible refine post_then ?_ | with_reducible refine post_thenE ?_ | with_reducible refine post_thenP ?_ | with_reducible refine post_blkP ?_ | with_reducible refine post_thenR ?_ | with_reducible refine post_blkN ?_ | with_reducible refine post_blkE ?_ | with_reducible refine post_blkF rfl ?_ | with_reducible refine post_blkR ?_
        | with_reducible refine seg_eval (by simp -dsimp -implicitDefEqProofs [hf, hr]; rfl) ?_
    all_goals first
      | exact post_finS rfl rfl (.tup (.cons (.nil 0 1) (.cons (.rfl _) .nil))) ⟨[], [], rfl, rfl, rfl, rfl⟩
      | trace_state
  | true =>
    have e1 : frB f = enc (frmL f) := by simp [frB, hr]
    have e2 : frE f = 0 := by simp [frE, hr]
    have he := frm_enc hr
    have ha := frm_all hr
    have hb := (rightB_iff f).1 hr
    rw [e1, e2]
    obtain ⟨v0, rfl⟩ := Int.eq_ofNat_of_zero_le (show 0 ≤ view by subst hf; exact hb.1)
    obtain ⟨v1, rfl⟩ := Int.eq_ofNat_of_zero_le hx
    obtain ⟨v2, rfl⟩ := Int.eq_ofNat_of_zero_le (show 0 ≤ seq by subst hf; exact hb.2.2.2.1)
    obtain ⟨v3, rfl⟩ := Int.eq_ofNat_of_zero_le (show 0 ≤ kind by subst hf; have := hb.2.2.2.2.2.1; simp only at this; omega)
    have hfl : frmL f = [⟨1, v0, ⟨#[]⟩, 0⟩, ⟨1, v1, ⟨#[]⟩, 0⟩, ⟨1, v2, ⟨#[]⟩, 0⟩, ⟨1, v3, ⟨#[]⟩, 0⟩, ⟨2, 0, body, 0⟩] := by subst hf; simp [frmL, nF, tF]
    have w0 : IntKind.wrap .u64 (v0 : Int) = (v0 : Int) := IntWalk.u64_in _ (by subst hf; simp only at hb; omega)
    have w1 : IntKind.wrap .u64 (v1 : Int) = (v1 : Int) := IntWalk.u64_in _ (by subst hf; simp only at hb; omega)
    have w2 : IntKind.wrap .u64 (v2 : Int) = (v2 : Int) := IntWalk.u64_in _ (by subst hf; simp only at hb; omega)
    have w3 : IntKind.wrap .u64 (v3 : Int) = (v3 : Int) := IntWalk.u64_in _ (by subst hf; simp only at hb; omega)
    rw [hfl] at he ha ⊢
    have hfb : f.body = body := by subst hf; rfl
    obtain ⟨o0, o1, o2, o3, o4⟩ : Fld.ok ⟨1, v0, ⟨#[]⟩, 0⟩ = true ∧ Fld.ok ⟨1, v1, ⟨#[]⟩, 0⟩ = true ∧ Fld.ok ⟨1, v2, ⟨#[]⟩, 0⟩ = true ∧ Fld.ok ⟨1, v3, ⟨#[]⟩, 0⟩ = true ∧ Fld.ok ⟨2, 0, body, 0⟩ = true := by
      simpa only [List.all_cons, List.all_nil, Bool.and_eq_true, Bool.and_true] using ha
    repeat' first
        | with_reducible refine wp_regionS (seg_eval (by simp -dsimp -implicitDefEqProofs [hf, hr, w0, w1, w2, w3, he, hfb, o0, o1, o2, o3, o4]; rfl) ?_)
        | with_reducible refine wp_region (seg_eval (by simp -dsimp -implicitDefEqProofs [hf, hr, w0, w1, w2, w3, he, hfb, o0, o1, o2, o3, o4]; rfl) ?_)
        | with_reducible refine wp_drawsS (seg_eval (by simp -dsimp -implicitDefEqProofs [hf, hr, w0, w1, w2, w3, he, hfb, o0, o1, o2, o3, o4]; rfl) ?_)
        | with_reducible refine wp_draws (seg_eval (by simp -dsimp -implicitDefEqProofs [hf, hr, w0, w1, w2, w3, he, hfb, o0, o1, o2, o3, o4]; rfl) ?_)
        | with_reducible refine seg_fin ?_
        | with_reducible refine seg_pan ?_
        | with_reducible refine seg_both ?_ ?_
        | with_reducible refine seg_case (fun x h => ?_) (fun h => ?_)
        | with_reducible refine seg_gate (fun h => ?_) (fun h => ?_)
        | with_reducible refine seg_need ?_ ?_
        | with_reducible refine wp_assoc ?_ | with_reducible refine wp_skipS ?_ | with_reducible refine wp_retS ?_ | with_reducible refine wp_exitS ?_ | with_reducible refine wp_dropS (wp_eqT (by simp -dsimp -implicitDefEqProofs [hf, hr, w0, w1, w2, w3, he, hfb, o0, o1, o2, o3, o4]; rfl) ?_) | with_reducible refine wp_sealS (by simp -dsimp -implicitDefEqProofs [hf, hr, w0, w1, w2, w3, he, hfb, o0, o1, o2, o3, o4]; rfl) ?_ | with_reducible refine wp_seal (by simp -dsimp -implicitDefEqProofs [hf, hr, w0, w1, w2, w3, he, hfb, o0, o1, o2, o3, o4]; rfl) ?_ | with_reducible refine wp_blockS ?_ | with_reducible refine wp_skip' ?_ | with_reducible refine wp_ret' ?_ | with_reducible refine wp_exit' ?_ | with_reducible refine wp_drop (wp_eqT (by simp -dsimp -implicitDefEqProofs [hf, hr, w0, w1, w2, w3, he, hfb, o0, o1, o2, o3, o4]; rfl) ?_) | with_reducible refine wp_block' ?_
        | with_reducible refine wp_condVS (by simp -dsimp -implicitDefEqProofs [hf, hr, w0, w1, w2, w3, he, hfb, o0, o1, o2, o3, o4]; rfl) ?_
        | with_reducible refine wp_condV (by simp -dsimp -implicitDefEqProofs [hf, hr, w0, w1, w2, w3, he, hfb, o0, o1, o2, o3, o4]; rfl) ?_
        | with_reducible refine cond_t ?_ | with_reducible refine cond_f ?_ | with_reducible refine cond_v (fun h => ?_) (fun h => ?_)
        | with_reducible refine post_then ?_ | with_reducible refine post_thenE ?_ | with_reducible refine post_thenP ?_ | with_reducible refine post_blkP ?_ | with_reducible refine post_thenR ?_ | with_reducible refine post_blkN ?_ | with_reducible refine post_blkE ?_ | with_reducible refine post_blkF rfl ?_ | with_reducible refine post_blkR ?_
        | with_reducible refine seg_eval (by simp -dsimp -implicitDefEqProofs [hf, hr, w0, w1, w2, w3, he, hfb, o0, o1, o2, o3, o4]; rfl) ?_
    all_goals first
      | omega
      | exact post_fin rfl rfl ⟨[], [], rfl, rfl, rfl, rfl⟩
      | trace_state

def E24b : Env := E24.put 29 [] spFrE
theorem E24b_ok : EnvOk Try.prog E24b := Env.put_ok _ E24_ok frEncR_ok
attribute [simp] E24b

/-! ### The frame of bytes -/
def spFrD : Spec
  | [.fsl 1 es], [] => (inB es).bind fun b => some (.ret (.tup [avF (frF b), .v (.int .i64 (frG b))]), [])
  | _, _ => none

theorem fr_no {b : List UInt8} (h : frDec b = none) : frF b = zeroF ∧ frG b = 4 := by simp [frF, frG, h]
theorem fr_yes {b : List UInt8} {f : Frm} (h : frDec b = some f) : frF b = f ∧ frG b = 0 := by simp [frF, frG, h]
theorem min_if (m n : Nat) : (if (m : Int) < (n : Int) then (m : Int) else (n : Int)) = ((min n m : Nat) : Int) := by split <;> omega

set_option maxHeartbeats 8000000 in
theorem frDec_ok : CallOk Try.prog 30 spFrD := by
  refine Fr.ok_30 E24b_ok spFrD fun args mem r mem1 h => ?_
  unfold spFrD at h
  split at h
  case h_2 => cases h
  rename_i es
  obtain ⟨b, hb, h2⟩ := Option.bind_eq_some_iff.1 h
  clear h
  have := inB_some es b hb
  subst this
  clear hb
  cases h2
  unfold Fr.ac_30
  cases hd : dec b with
  | none =>
    obtain ⟨e1, e2⟩ := fr_no (frDec_none hd)
    rw [e1, e2]
    have d1 : decL b = [] := by simp [decL, hd]
    have d2 : decE b = 4 := by simp [decE, hd]
    repeat' first
        | with_reducible refine wp_regionS (seg_eval (by simp -dsimp -implicitDefEqProofs [d1, d2]; rfl) ?_)
        | with_reducible refine wp_region (seg_eval (by simp -dsimp -implicitDefEqProofs [d1, d2]; rfl) ?_)
        | with_reducible refine wp_drawsS (seg_eval (by simp -dsimp -implicitDefEqProofs [d1, d2]; rfl) ?_)
        | with_reducible refine wp_draws (seg_eval (by simp -dsimp -implicitDefEqProofs [d1, d2]; rfl) ?_)
        | with_reducible refine seg_fin ?_
        | with_reducible refine seg_pan ?_
        | with_reducible refine seg_both ?_ ?_
        | with_reducible refine seg_case (fun x h => ?_) (fun h => ?_)
        | with_reducible refine seg_gate (fun h => ?_) (fun h => ?_)
        | with_reducible refine seg_need ?_ ?_
        | with_reducible refine wp_assoc ?_ | with_reducible refine wp_skipS ?_ | with_reducible refine wp_retS ?_ | with_reducible refine wp_exitS ?_ | with_reducible refine wp_dropS (wp_eqT (by simp -dsimp -implicitDefEqProofs [d1, d2]; rfl) ?_) | with_reducible refine wp_sealS (by simp -dsimp -implicitDefEqProofs [d1, d2]; rfl) ?_ | with_reducible refine wp_seal (by simp -dsimp -implicitDefEqProofs [d1, d2]; rfl) ?_ | with_reducible refine wp_blockS ?_ | with_reducible refine wp_skip' ?_ | with_reducible refine wp_ret' ?_ | with_reducible refine wp_exit' ?_ | with_reducible refine wp_drop (wp_eqT (by simp -dsimp -implicitDefEqProofs [d1, d2]; rfl) ?_) | with_reducible refine wp_block' ?_
        | with_reducible refine wp_condVS (by simp -dsimp -implicitDefEqProofs [d1, d2]; rfl) ?_
        | with_reducible refine wp_condV (by simp -dsimp -implicitDefEqProofs [d1, d2]; rfl) ?_
        | with_reducible refine cond_t ?_ | with_reducible refine cond_f ?_ | with_reducible refine cond_v (fun h => ?_) (fun h => ?_)
        | with_reducible refine post_then ?_ | with_reducible refine post_thenE ?_ | with_reducible refine post_thenP ?_ | with_reducible refine post_blkP ?_ | with_reducible refine post_thenR ?_ | with_reducible refine post_blkN ?_ | with_reducible refine post_blkE ?_ | with_reducible refine post_blkF rfl ?_ | with_reducible refine post_blkR ?_
        | with_reducible refine seg_eval (by simp -dsimp -implicitDefEqProofs [d1, d2]; rfl) ?_
    all_goals first
      | omega
      | exact post_fin rfl rfl ⟨[], [], rfl, rfl, rfl, rfl⟩
      | trace_state
  | some l =>
    have d1 : decL b = l := by simp [decL, hd]
    have d2 : decE b = 0 := by simp [decE, hd]
    have hl : l.length ≤ 200 := (encE_zero (enc_dec hd).1).2.1
    have hi2 : uns unI [.v (.int .i64 1), .v (.int .i64 1), .v (.int .i64 1), .v (.int .i64 1), .v (.int .i64 2)] = some [1, 1, 1, 1, 2] := rfl
    by_cases hk : l.map Fld.kind = [1, 1, 1, 1, 2]
    · obtain ⟨n0, n1, n2, n3, t, rfl⟩ := kinds_five hk (encE_zero (enc_dec hd).1).1
      have hK : isK [nF n0, nF n1, nF n2, nF n3, tF t] [1, 1, 1, 1, 2] = true := by simp [isK, nF, tF]
      have hc := frDec_clip1 hd
      simp only [nF, tF] at d1 hK
      have m0 : min n0 1001 ≤ 1001 := Nat.min_le_right _ _
      have m1 : min n1 1001 ≤ 1001 := Nat.min_le_right _ _
      have m2 : min n2 1001 ≤ 1001 := Nat.min_le_right _ _
      have m3 : min n3 1001 ≤ 1001 := Nat.min_le_right _ _
      have m4 : min (min n1 1001) 16 ≤ 16 := Nat.min_le_right _ _
      have x0 : (if (1001 : Int) < (n0 : Int) then (1001 : Int) else (n0 : Int)) = ((min n0 1001 : Nat) : Int) := min_if 1001 n0
      have x1 : (if (1001 : Int) < (n1 : Int) then (1001 : Int) else (n1 : Int)) = ((min n1 1001 : Nat) : Int) := min_if 1001 n1
      have x2 : (if (1001 : Int) < (n2 : Int) then (1001 : Int) else (n2 : Int)) = ((min n2 1001 : Nat) : Int) := min_if 1001 n2
      have x3 : (if (1001 : Int) < (n3 : Int) then (1001 : Int) else (n3 : Int)) = ((min n3 1001 : Nat) : Int) := min_if 1001 n3
      have x4 : (if (16 : Int) < ((min n1 1001 : Nat) : Int) then (16 : Int) else ((min n1 1001 : Nat) : Int)) = ((min (min n1 1001) 16 : Nat) : Int) := min_if 16 (min n1 1001)
      unfold clip1 at hc
      generalize min (min n1 1001) 16 = k4 at m4 x4 hc
      generalize min n0 1001 = k0 at m0 x0 hc
      generalize min n1 1001 = k1 at m1 x1 hc x4
      generalize min n2 1001 = k2 at m2 x2 hc
      generalize min n3 1001 = k3 at m3 x3 hc
      have w0 : IntKind.wrap .i64 (k0 : Int) = (k0 : Int) := IntWalk.i64_in _ (by omega)
      have w1 : IntKind.wrap .i64 (k1 : Int) = (k1 : Int) := IntWalk.i64_in _ (by omega)
      have w2 : IntKind.wrap .i64 (k2 : Int) = (k2 : Int) := IntWalk.i64_in _ (by omega)
      have w3 : IntKind.wrap .i64 (k3 : Int) = (k3 : Int) := IntWalk.i64_in _ (by omega)
      have w4 : IntKind.wrap .u8 (k4 : Int) = (k4 : Int) := IntWalk.u8_in _ (by omega)
      have q0 : IntKind.wrap .i64 1 = 1 := by decide
      have q1 : IntKind.wrap .i64 2 = 2 := by decide
      have q2 : IntKind.wrap .i64 3 = 3 := by decide
      have q3 : IntKind.wrap .i64 4 = 4 := by decide
      repeat' first
          | with_reducible refine wp_regionS (seg_eval (by simp -dsimp -implicitDefEqProofs [d1, d2, hK, hi2]; rfl) ?_)
          | with_reducible refine wp_region (seg_eval (by simp -dsimp -implicitDefEqProofs [d1, d2, hK, hi2]; rfl) ?_)
          | with_reducible refine wp_drawsS (seg_eval (by simp -dsimp -implicitDefEqProofs [d1, d2, hK, hi2]; rfl) ?_)
          | with_reducible refine wp_draws (seg_eval (by simp -dsimp -implicitDefEqProofs [d1, d2, hK, hi2]; rfl) ?_)
          | with_reducible refine seg_fin ?_
          | with_reducible refine seg_pan ?_
          | with_reducible refine seg_both ?_ ?_
          | with_reducible refine seg_case (fun x h => ?_) (fun h => ?_)
          | with_reducible refine seg_gate (fun h => ?_) (fun h => ?_)
          | with_reducible refine seg_need ?_ ?_
          | with_reducible refine wp_assoc ?_ | with_reducible refine wp_skipS ?_ | with_reducible refine wp_retS ?_ | with_reducible refine wp_exitS ?_ | with_reducible refine wp_dropS (wp_eqT (by simp -dsimp -implicitDefEqProofs [d1, d2, hK, hi2]; rfl) ?_) | with_reducible refine wp_sealS (by simp -dsimp -implicitDefEqProofs [d1, d2, hK, hi2]; rfl) ?_ | with_reducible refine wp_seal (by simp -dsimp -implicitDefEqProofs [d1, d2, hK, hi2]; rfl) ?_ | with_reducible refine wp_blockS ?_ | with_reducible refine wp_skip' ?_ | with_reducible refine wp_ret' ?_ | with_reducible refine wp_exit' ?_ | with_reducible refine wp_drop (wp_eqT (by simp -dsimp -implicitDefEqProofs [d1, d2, hK, hi2]; rfl) ?_) | with_reducible refine wp_block' ?_
          | with_reducible refine wp_condVS (by simp -dsimp -implicitDefEqProofs [d1, d2, hK, hi2]; rfl) ?_
          | with_reducible refine wp_condV (by simp -dsimp -implicitDefEqProofs [d1, d2, hK, hi2]; rfl) ?_
          | with_reducible refine cond_t ?_ | with_reducible refine cond_f ?_ | with_reducible refine cond_v (fun h => ?_) (fun h => ?_)
          | with_reducible refine post_then ?_ | with_reducible refine post_thenE ?_ | with_reducible refine post_thenP ?_ | with_reducible refine post_blkP ?_ | with_reducible refine post_thenR ?_ | with_reducible refine post_blkN ?_ | with_reducible refine post_blkE ?_ | with_reducible refine post_blkF rfl ?_ | with_reducible refine post_blkR ?_
          | with_reducible refine seg_eval (by simp -dsimp -implicitDefEqProofs [d1, d2, hK, hi2]; rfl) ?_
      refine wp_loop' (fun j ts mm => ∃ i : Nat, i + j = 4 ∧ ts = [(2, .ptr 0 0 0), (4, .fsl 4 ([⟨1, n0, ⟨#[]⟩, 0⟩, ⟨1, n1, ⟨#[]⟩, 0⟩, ⟨1, n2, ⟨#[]⟩, 0⟩, ⟨1, n3, ⟨#[]⟩, 0⟩, ⟨2, 0, t, 0⟩].map av1)), (6, .ptr 1 0 0), (23, .v (.int .i64 i))] ∧
        mm = [.var [.v (.int .i64 0), .v (.int .u8 0), .v (.int .i64 0), .v (.int .i64 0), .v (.string ⟨#[]⟩)], .var ((([k0, k1, k2, k3].take i) ++ List.replicate (4 - i) 0).map fun k : Nat => .v (.int .i64 k))]) 4 ?_ ?_
      · exact ⟨[], [0, 2], rfl, rfl, 0, by omega, by simp, by simp [List.replicate]⟩
      · rintro j ts mm ⟨i, hi, rfl, rfl⟩
        have hi4 : i = 0 ∨ i = 1 ∨ i = 2 ∨ i = 3 ∨ i = 4 := by omega
        rcases hi4 with rfl | rfl | rfl | rfl | rfl
        · repeat' first
              | with_reducible refine wp_regionS (seg_eval (by simp -dsimp -implicitDefEqProofs [List.replicate, x0, w0, q0]; rfl) ?_)
              | with_reducible refine wp_region (seg_eval (by simp -dsimp -implicitDefEqProofs [List.replicate, x0, w0, q0]; rfl) ?_)
              | with_reducible refine wp_drawsS (seg_eval (by simp -dsimp -implicitDefEqProofs [List.replicate, x0, w0, q0]; rfl) ?_)
              | with_reducible refine wp_draws (seg_eval (by simp -dsimp -implicitDefEqProofs [List.replicate, x0, w0, q0]; rfl) ?_)
              | with_reducible refine seg_fin ?_
              | with_reducible refine seg_pan ?_
              | with_reducible refine seg_both ?_ ?_
              | with_reducible refine seg_case (fun x h => ?_) (fun h => ?_)
              | with_reducible refine seg_gate (fun h => ?_) (fun h => ?_)
              | with_reducible refine seg_need ?_ ?_
              | with_reducible refine wp_assoc ?_ | with_reducible refine wp_skipS ?_ | with_reducible refine wp_retS ?_ | with_reducible refine wp_exitS ?_ | with_reducible refine wp_dropS (wp_eqT (by simp -dsimp -implicitDefEqProofs [List.replicate, x0, w0, q0]; rfl) ?_) | with_reducible refine wp_sealS (by simp -dsimp -implicitDefEqProofs [List.replicate, x0, w0, q0]; rfl) ?_ | with_reducible refine wp_seal (by simp -dsimp -implicitDefEqProofs [List.replicate, x0, w0, q0]; rfl) ?_ | with_reducible refine wp_blockS ?_ | with_reducible refine wp_skip' ?_ | with_reducible refine wp_ret' ?_ | with_reducible refine wp_exit' ?_ | with_reducible refine wp_drop (wp_eqT (by simp -dsimp -implicitDefEqProofs [List.replicate, x0, w0, q0]; rfl) ?_) | with_reducible refine wp_block' ?_
              | with_reducible refine wp_condVS (by simp -dsimp -implicitDefEqProofs [List.replicate, x0, w0, q0]; rfl) ?_
              | with_reducible refine wp_condV (by simp -dsimp -implicitDefEqProofs [List.replicate, x0, w0, q0]; rfl) ?_
              | with_reducible refine cond_t ?_ | with_reducible refine cond_f ?_ | with_reducible refine cond_v (fun h => ?_) (fun h => ?_)
              | with_reducible refine post_then ?_ | with_reducible refine post_thenE ?_ | with_reducible refine post_thenP ?_ | with_reducible refine post_blkP ?_ | with_reducible refine post_thenR ?_ | with_reducible refine post_blkN ?_ | with_reducible refine post_blkE ?_ | with_reducible refine post_blkF rfl ?_ | with_reducible refine post_blkR ?_
              | with_reducible refine seg_eval (by simp -dsimp -implicitDefEqProofs [List.replicate, x0, w0, q0]; rfl) ?_
          exact ⟨j - 1, by omega, [], [0, 1], rfl, rfl, 1, by omega, by simp, by simp [List.replicate]⟩
        · repeat' first
              | with_reducible refine wp_regionS (seg_eval (by simp -dsimp -implicitDefEqProofs [List.replicate, x1, w1, q1]; rfl) ?_)
              | with_reducible refine wp_region (seg_eval (by simp -dsimp -implicitDefEqProofs [List.replicate, x1, w1, q1]; rfl) ?_)
              | with_reducible refine wp_drawsS (seg_eval (by simp -dsimp -implicitDefEqProofs [List.replicate, x1, w1, q1]; rfl) ?_)
              | with_reducible refine wp_draws (seg_eval (by simp -dsimp -implicitDefEqProofs [List.replicate, x1, w1, q1]; rfl) ?_)
              | with_reducible refine seg_fin ?_
              | with_reducible refine seg_pan ?_
              | with_reducible refine seg_both ?_ ?_
              | with_reducible refine seg_case (fun x h => ?_) (fun h => ?_)
              | with_reducible refine seg_gate (fun h => ?_) (fun h => ?_)
              | with_reducible refine seg_need ?_ ?_
              | with_reducible refine wp_assoc ?_ | with_reducible refine wp_skipS ?_ | with_reducible refine wp_retS ?_ | with_reducible refine wp_exitS ?_ | with_reducible refine wp_dropS (wp_eqT (by simp -dsimp -implicitDefEqProofs [List.replicate, x1, w1, q1]; rfl) ?_) | with_reducible refine wp_sealS (by simp -dsimp -implicitDefEqProofs [List.replicate, x1, w1, q1]; rfl) ?_ | with_reducible refine wp_seal (by simp -dsimp -implicitDefEqProofs [List.replicate, x1, w1, q1]; rfl) ?_ | with_reducible refine wp_blockS ?_ | with_reducible refine wp_skip' ?_ | with_reducible refine wp_ret' ?_ | with_reducible refine wp_exit' ?_ | with_reducible refine wp_drop (wp_eqT (by simp -dsimp -implicitDefEqProofs [List.replicate, x1, w1, q1]; rfl) ?_) | with_reducible refine wp_block' ?_
              | with_reducible refine wp_condVS (by simp -dsimp -implicitDefEqProofs [List.replicate, x1, w1, q1]; rfl) ?_
              | with_reducible refine wp_condV (by simp -dsimp -implicitDefEqProofs [List.replicate, x1, w1, q1]; rfl) ?_
              | with_reducible refine cond_t ?_ | with_reducible refine cond_f ?_ | with_reducible refine cond_v (fun h => ?_) (fun h => ?_)
              | with_reducible refine post_then ?_ | with_reducible refine post_thenE ?_ | with_reducible refine post_thenP ?_ | with_reducible refine post_blkP ?_ | with_reducible refine post_thenR ?_ | with_reducible refine post_blkN ?_ | with_reducible refine post_blkE ?_ | with_reducible refine post_blkF rfl ?_ | with_reducible refine post_blkR ?_
              | with_reducible refine seg_eval (by simp -dsimp -implicitDefEqProofs [List.replicate, x1, w1, q1]; rfl) ?_
          exact ⟨j - 1, by omega, [], [0, 1], rfl, rfl, 2, by omega, by simp, by simp [List.replicate]⟩
        · repeat' first
              | with_reducible refine wp_regionS (seg_eval (by simp -dsimp -implicitDefEqProofs [List.replicate, x2, w2, q2]; rfl) ?_)
              | with_reducible refine wp_region (seg_eval (by simp -dsimp -implicitDefEqProofs [List.replicate, x2, w2, q2]; rfl) ?_)
              | with_reducible refine wp_drawsS (seg_eval (by simp -dsimp -implicitDefEqProofs [List.replicate, x2, w2, q2]; rfl) ?_)
              | with_reducible refine wp_draws (seg_eval (by simp -dsimp -implicitDefEqProofs [List.replicate, x2, w2, q2]; rfl) ?_)
              | with_reducible refine seg_fin ?_
              | with_reducible refine seg_pan ?_
              | with_reducible refine seg_both ?_ ?_
              | with_reducible refine seg_case (fun x h => ?_) (fun h => ?_)
              | with_reducible refine seg_gate (fun h => ?_) (fun h => ?_)
              | with_reducible refine seg_need ?_ ?_
              | with_reducible refine wp_assoc ?_ | with_reducible refine wp_skipS ?_ | with_reducible refine wp_retS ?_ | with_reducible refine wp_exitS ?_ | with_reducible refine wp_dropS (wp_eqT (by simp -dsimp -implicitDefEqProofs [List.replicate, x2, w2, q2]; rfl) ?_) | with_reducible refine wp_sealS (by simp -dsimp -implicitDefEqProofs [List.replicate, x2, w2, q2]; rfl) ?_ | with_reducible refine wp_seal (by simp -dsimp -implicitDefEqProofs [List.replicate, x2, w2, q2]; rfl) ?_ | with_reducible refine wp_blockS ?_ | with_reducible refine wp_skip' ?_ | with_reducible refine wp_ret' ?_ | with_reducible refine wp_exit' ?_ | with_reducible refine wp_drop (wp_eqT (by simp -dsimp -implicitDefEqProofs [List.replicate, x2, w2, q2]; rfl) ?_) | with_reducible refine wp_block' ?_
              | with_reducible refine wp_condVS (by simp -dsimp -implicitDefEqProofs [List.replicate, x2, w2, q2]; rfl) ?_
              | with_reducible refine wp_condV (by simp -dsimp -implicitDefEqProofs [List.replicate, x2, w2, q2]; rfl) ?_
              | with_reducible refine cond_t ?_ | with_reducible refine cond_f ?_ | with_reducible refine cond_v (fun h => ?_) (fun h => ?_)
              | with_reducible refine post_then ?_ | with_reducible refine post_thenE ?_ | with_reducible refine post_thenP ?_ | with_reducible refine post_blkP ?_ | with_reducible refine post_thenR ?_ | with_reducible refine post_blkN ?_ | with_reducible refine post_blkE ?_ | with_reducible refine post_blkF rfl ?_ | with_reducible refine post_blkR ?_
              | with_reducible refine seg_eval (by simp -dsimp -implicitDefEqProofs [List.replicate, x2, w2, q2]; rfl) ?_
          exact ⟨j - 1, by omega, [], [0, 1], rfl, rfl, 3, by omega, by simp, by simp [List.replicate]⟩
        · repeat' first
              | with_reducible refine wp_regionS (seg_eval (by simp -dsimp -implicitDefEqProofs [List.replicate, x3, w3, q3]; rfl) ?_)
              | with_reducible refine wp_region (seg_eval (by simp -dsimp -implicitDefEqProofs [List.replicate, x3, w3, q3]; rfl) ?_)
              | with_reducible refine wp_drawsS (seg_eval (by simp -dsimp -implicitDefEqProofs [List.replicate, x3, w3, q3]; rfl) ?_)
              | with_reducible refine wp_draws (seg_eval (by simp -dsimp -implicitDefEqProofs [List.replicate, x3, w3, q3]; rfl) ?_)
              | with_reducible refine seg_fin ?_
              | with_reducible refine seg_pan ?_
              | with_reducible refine seg_both ?_ ?_
              | with_reducible refine seg_case (fun x h => ?_) (fun h => ?_)
              | with_reducible refine seg_gate (fun h => ?_) (fun h => ?_)
              | with_reducible refine seg_need ?_ ?_
              | with_reducible refine wp_assoc ?_ | with_reducible refine wp_skipS ?_ | with_reducible refine wp_retS ?_ | with_reducible refine wp_exitS ?_ | with_reducible refine wp_dropS (wp_eqT (by simp -dsimp -implicitDefEqProofs [List.replicate, x3, w3, q3]; rfl) ?_) | with_reducible refine wp_sealS (by simp -dsimp -implicitDefEqProofs [List.replicate, x3, w3, q3]; rfl) ?_ | with_reducible refine wp_seal (by simp -dsimp -implicitDefEqProofs [List.replicate, x3, w3, q3]; rfl) ?_ | with_reducible refine wp_blockS ?_ | with_reducible refine wp_skip' ?_ | with_reducible refine wp_ret' ?_ | with_reducible refine wp_exit' ?_ | with_reducible refine wp_drop (wp_eqT (by simp -dsimp -implicitDefEqProofs [List.replicate, x3, w3, q3]; rfl) ?_) | with_reducible refine wp_block' ?_
              | with_reducible refine wp_condVS (by simp -dsimp -implicitDefEqProofs [List.replicate, x3, w3, q3]; rfl) ?_
              | with_reducible refine wp_condV (by simp -dsimp -implicitDefEqProofs [List.replicate, x3, w3, q3]; rfl) ?_
              | with_reducible refine cond_t ?_ | with_reducible refine cond_f ?_ | with_reducible refine cond_v (fun h => ?_) (fun h => ?_)
              | with_reducible refine post_then ?_ | with_reducible refine post_thenE ?_ | with_reducible refine post_thenP ?_ | with_reducible refine post_blkP ?_ | with_reducible refine post_thenR ?_ | with_reducible refine post_blkN ?_ | with_reducible refine post_blkE ?_ | with_reducible refine post_blkF rfl ?_ | with_reducible refine post_blkR ?_
              | with_reducible refine seg_eval (by simp -dsimp -implicitDefEqProofs [List.replicate, x3, w3, q3]; rfl) ?_
          exact ⟨j - 1, by omega, [], [0, 1], rfl, rfl, 4, by omega, by simp, by simp [List.replicate]⟩
        · generalize hf : Frm.mk k0 k4 k2 k3 t = f at hc
          cases hr : rightB f with
          | false =>
            rw [hr] at hc
            simp only [Bool.false_eq_true, if_false] at hc
            obtain ⟨e1, e2⟩ := fr_no hc
            rw [e1, e2]
            repeat' first
                | with_reducible refine wp_regionS (seg_eval (by simp -dsimp -implicitDefEqProofs [List.replicate, x4, w4, hf, hr]; rfl) ?_)
                | with_reducible refine wp_region (seg_eval (by simp -dsimp -implicitDefEqProofs [List.replicate, x4, w4, hf, hr]; rfl) ?_)
                | with_reducible refine wp_drawsS (seg_eval (by simp -dsimp -implicitDefEqProofs [List.replicate, x4, w4, hf, hr]; rfl) ?_)
                | with_reducible refine wp_draws (seg_eval (by simp -dsimp -implicitDefEqProofs [List.replicate, x4, w4, hf, hr]; rfl) ?_)
                | with_reducible refine seg_fin ?_
                | with_reducible refine seg_pan ?_
                | with_reducible refine seg_both ?_ ?_
                | with_reducible refine seg_case (fun x h => ?_) (fun h => ?_)
                | with_reducible refine seg_gate (fun h => ?_) (fun h => ?_)
                | with_reducible refine seg_need ?_ ?_
                | with_reducible refine wp_assoc ?_ | with_reducible refine wp_skipS ?_ | with_reducible refine wp_retS ?_ | with_reducible refine wp_exitS ?_ | with_reducible refine wp_dropS (wp_eqT (by simp -dsimp -implicitDefEqProofs [List.replicate, x4, w4, hf, hr]; rfl) ?_) | with_reducible refine wp_sealS (by simp -dsimp -implicitDefEqProofs [List.replicate, x4, w4, hf, hr]; rfl) ?_ | with_reducible refine wp_seal (by simp -dsimp -implicitDefEqProofs [List.replicate, x4, w4, hf, hr]; rfl) ?_ | with_reducible refine wp_blockS ?_ | with_reducible refine wp_skip' ?_ | with_reducible refine wp_ret' ?_ | with_reducible refine wp_exit' ?_ | with_reducible refine wp_drop (wp_eqT (by simp -dsimp -implicitDefEqProofs [List.replicate, x4, w4, hf, hr]; rfl) ?_) | with_reducible refine wp_block' ?_
                | with_reducible refine wp_condVS (by simp -dsimp -implicitDefEqProofs [List.replicate, x4, w4, hf, hr]; rfl) ?_
                | with_reducible refine wp_condV (by simp -dsimp -implicitDefEqProofs [List.replicate, x4, w4, hf, hr]; rfl) ?_
                | with_reducible refine cond_t ?_ | with_reducible refine cond_f ?_ | with_reducible refine cond_v (fun h => ?_) (fun h => ?_)
                | with_reducible refine post_then ?_ | with_reducible refine post_thenE ?_ | with_reducible refine post_thenP ?_ | with_reducible refine post_blkP ?_ | with_reducible refine post_thenR ?_ | with_reducible refine post_blkN ?_ | with_reducible refine post_blkE ?_ | with_reducible refine post_blkF rfl ?_ | with_reducible refine post_blkR ?_
                | with_reducible refine seg_eval (by simp -dsimp -implicitDefEqProofs [List.replicate, x4, w4, hf, hr]; rfl) ?_
            all_goals first
              | omega
              | exact post_fin rfl rfl ⟨[], [], rfl, rfl, rfl, rfl⟩
              | trace_state
          | true =>
            rw [hr] at hc
            simp only [if_true] at hc
            obtain ⟨e1, e2⟩ := fr_yes hc
            rw [e1, e2]
            repeat' first
                | with_reducible refine wp_regionS (seg_eval (by simp -dsimp -implicitDefEqProofs [List.replicate, x4, w4, hf, hr]; rfl) ?_)
                | with_reducible refine wp_region (seg_eval (by simp -dsimp -implicitDefEqProofs [List.replicate, x4, w4, hf, hr]; rfl) ?_)
                | with_reducible refine wp_drawsS (seg_eval (by simp -dsimp -implicitDefEqProofs [List.replicate, x4, w4, hf, hr]; rfl) ?_)
                | with_reducible refine wp_draws (seg_eval (by simp -dsimp -implicitDefEqProofs [List.replicate, x4, w4, hf, hr]; rfl) ?_)
                | with_reducible refine seg_fin ?_
                | with_reducible refine seg_pan ?_
                | with_reducible refine seg_both ?_ ?_
                | with_reducible refine seg_case (fun x h => ?_) (fun h => ?_)
                | with_reducible refine seg_gate (fun h => ?_) (fun h => ?_)
                | with_reducible refine seg_need ?_ ?_
                | with_reducible refine wp_assoc ?_ | with_reducible refine wp_skipS ?_ | with_reducible refine wp_retS ?_ | with_reducible refine wp_exitS ?_ | with_reducible refine wp_dropS (wp_eqT (by simp -dsimp -implicitDefEqProofs [List.replicate, x4, w4, hf, hr]; rfl) ?_) | with_reducible refine wp_sealS (by simp -dsimp -implicitDefEqProofs [List.replicate, x4, w4, hf, hr]; rfl) ?_ | with_reducible refine wp_seal (by simp -dsimp -implicitDefEqProofs [List.replicate, x4, w4, hf, hr]; rfl) ?_ | with_reducible refine wp_blockS ?_ | with_reducible refine wp_skip' ?_ | with_reducible refine wp_ret' ?_ | with_reducible refine wp_exit' ?_ | with_reducible refine wp_drop (wp_eqT (by simp -dsimp -implicitDefEqProofs [List.replicate, x4, w4, hf, hr]; rfl) ?_) | with_reducible refine wp_block' ?_
                | with_reducible refine wp_condVS (by simp -dsimp -implicitDefEqProofs [List.replicate, x4, w4, hf, hr]; rfl) ?_
                | with_reducible refine wp_condV (by simp -dsimp -implicitDefEqProofs [List.replicate, x4, w4, hf, hr]; rfl) ?_
                | with_reducible refine cond_t ?_ | with_reducible refine cond_f ?_ | with_reducible refine cond_v (fun h => ?_) (fun h => ?_)
                | with_reducible refine post_then ?_ | with_reducible refine post_thenE ?_ | with_reducible refine post_thenP ?_ | with_reducible refine post_blkP ?_ | with_reducible refine post_thenR ?_ | with_reducible refine post_blkN ?_ | with_reducible refine post_blkE ?_ | with_reducible refine post_blkF rfl ?_ | with_reducible refine post_blkR ?_
                | with_reducible refine seg_eval (by simp -dsimp -implicitDefEqProofs [List.replicate, x4, w4, hf, hr]; rfl) ?_
            all_goals first
              | omega
              | exact post_fin rfl rfl ⟨[], [], rfl, rfl, by subst hf; rfl, rfl⟩
              | trace_state
    · obtain ⟨e1, e2⟩ := fr_no (frDec_kinds hd hk)
      rw [e1, e2]
      have hK : isK l [1, 1, 1, 1, 2] = false := by simp [isK, hk]
      repeat' first
          | with_reducible refine wp_regionS (seg_eval (by simp -dsimp -implicitDefEqProofs [d1, d2, hK, hi2]; rfl) ?_)
          | with_reducible refine wp_region (seg_eval (by simp -dsimp -implicitDefEqProofs [d1, d2, hK, hi2]; rfl) ?_)
          | with_reducible refine wp_drawsS (seg_eval (by simp -dsimp -implicitDefEqProofs [d1, d2, hK, hi2]; rfl) ?_)
          | with_reducible refine wp_draws (seg_eval (by simp -dsimp -implicitDefEqProofs [d1, d2, hK, hi2]; rfl) ?_)
          | with_reducible refine seg_fin ?_
          | with_reducible refine seg_pan ?_
          | with_reducible refine seg_both ?_ ?_
          | with_reducible refine seg_case (fun x h => ?_) (fun h => ?_)
          | with_reducible refine seg_gate (fun h => ?_) (fun h => ?_)
          | with_reducible refine seg_need ?_ ?_
          | with_reducible refine wp_assoc ?_ | with_reducible refine wp_skipS ?_ | with_reducible refine wp_retS ?_ | with_reducible refine wp_exitS ?_ | with_reducible refine wp_dropS (wp_eqT (by simp -dsimp -implicitDefEqProofs [d1, d2, hK, hi2]; rfl) ?_) | with_reducible refine wp_sealS (by simp -dsimp -implicitDefEqProofs [d1, d2, hK, hi2]; rfl) ?_ | with_reducible refine wp_seal (by simp -dsimp -implicitDefEqProofs [d1, d2, hK, hi2]; rfl) ?_ | with_reducible refine wp_blockS ?_ | with_reducible refine wp_skip' ?_ | with_reducible refine wp_ret' ?_ | with_reducible refine wp_exit' ?_ | with_reducible refine wp_drop (wp_eqT (by simp -dsimp -implicitDefEqProofs [d1, d2, hK, hi2]; rfl) ?_) | with_reducible refine wp_block' ?_
          | with_reducible refine wp_condVS (by simp -dsimp -implicitDefEqProofs [d1, d2, hK, hi2]; rfl) ?_
          | with_reducible refine wp_condV (by simp -dsimp -implicitDefEqProofs [d1, d2, hK, hi2]; rfl) ?_
          | with_reducible refine cond_t ?_ | with_reducible refine cond_f ?_ | with_reducible refine cond_v (fun h => ?_) (fun h => ?_)
          | with_reducible refine post_then ?_ | with_reducible refine post_thenE ?_ | with_reducible refine post_thenP ?_ | with_reducible refine post_blkP ?_ | with_reducible refine post_thenR ?_ | with_reducible refine post_blkN ?_ | with_reducible refine post_blkE ?_ | with_reducible refine post_blkF rfl ?_ | with_reducible refine post_blkR ?_
          | with_reducible refine seg_eval (by simp -dsimp -implicitDefEqProofs [d1, d2, hK, hi2]; rfl) ?_
      all_goals first
        | omega
        | exact post_fin rfl rfl ⟨[], [], rfl, rfl, rfl, rfl⟩
        | trace_state
end Go.Proofs.Ytbhbpahbopjfeaa.Am
