/-
  WHICH NUMBERS A MARK MAY HAVE, AND WHICH FLUSHES MAY BE.
-/
import Derived.Test.YtbponegjfccgfaaC2
import Derived.Test.YtbponegjfccgfaaSBMk
namespace Go.Proofs.Ytbponegjfccgfaa.Am
set_option linter.unusedSimpArgs false
set_option linter.unusedVariables false
open Go Go.Proofs
attribute [local irreducible] wpA
attribute [-simp] splice

def FitsV (s : Nat) (v : List Nat) : Prop := ∀ k n, v[k]? = some n → n < 1000 ∧ (0 < n → hasS s k = true)
open Classical in
noncomputable def fitsB (s : Nat) (v : List Nat) : Bool := decide (FitsV s v)
open Classical in
theorem fits_yes {s : Nat} {v : List Nat} (h : FitsV s v) : fitsB s v = true := by unfold fitsB; exact decide_eq_true h
open Classical in
theorem fits_no {s : Nat} {v : List Nat} (h : ¬ FitsV s v) : fitsB s v = false := by unfold fitsB; exact decide_eq_false h
open Classical in
theorem fits_iff {s : Nat} {v : List Nat} : fitsB s v = true ↔ FitsV s v := by unfold fitsB; exact decide_eq_true_iff

noncomputable def spFits : Spec := spc (X := Int × List AV × List Nat) (fun p => ([.agg [.v (.int .u16 p.1), .fsl 17 p.2.1], .agg (vc p.2.2)], [])) (fun p => 0 ≤ p.1 ∧ p.1 < 65536 ∧ okV p.2.2)
  (fun p => (.ret (.v (.bool (fitsB p.1.toNat p.2.2))), []))
open Classical in
theorem fitsAt (s : Int) (es : List AV) (v : List Nat) : spFits [.agg [.v (.int .u16 s), .fsl 17 es], .agg (vc v)] [] = if 0 ≤ s ∧ s < 65536 ∧ okV v then some (.ret (.v (.bool (fitsB s.toNat v))), []) else none :=
  spc_at (f := fun p : Int × List AV × List Nat => ([.agg [.v (.int .u16 p.1), .fsl 17 p.2.1], .agg (vc p.2.2)], [])) (fun x y h => by
    simp only [Prod.mk.injEq, List.cons.injEq, and_true, AV.agg.injEq, AV.v.injEq, Value.int.injEq, true_and, AV.fsl.injEq] at h
    exact Prod.ext h.1.1 (Prod.ext h.1.2 (vc_inj h.2))) (s, es, v)
noncomputable def spFitsR : Spec := spc (X := Int × List Nat) (fun p => ([.v (.int .u16 p.1), .agg (vc p.2)], [])) (fun p => 0 ≤ p.1 ∧ p.1 < 65536 ∧ okV p.2)
  (fun p => (.ret (.v (.bool (fitsB p.1.toNat p.2))), []))
open Classical in
theorem fitsRAt (s : Int) (v : List Nat) : spFitsR [.v (.int .u16 s), .agg (vc v)] [] = if 0 ≤ s ∧ s < 65536 ∧ okV v then some (.ret (.v (.bool (fitsB s.toNat v))), []) else none :=
  spc_at (f := fun p : Int × List Nat => ([.v (.int .u16 p.1), .agg (vc p.2)], [])) (fun x y h => by
    simp only [Prod.mk.injEq, List.cons.injEq, and_true, AV.agg.injEq, AV.v.injEq, Value.int.injEq, true_and] at h
    exact Prod.ext h.1 (vc_inj h.2)) (s, v)

set_option maxHeartbeats 4000000 in
theorem fits_ok : CallOk Try.prog 45 spFits := by
  refine ok_45 (Env.put_ok [] (Env.none_ok _) has_ok) spFits (wb_spc ?_)
  rintro ⟨s, es, v⟩ ⟨hs0, hs1, hv⟩
  simp only at hs0 hs1 hv ⊢
  obtain ⟨s, rfl⟩ := Int.eq_ofNat_of_zero_le hs0
  simp only [Int.toNat_natCast]
  have hvl := hv.1
  have hsl : (s : Int) < 65536 := hs1
  unfold ac_45
  repeat' first
      | with_reducible refine wp_regionS (seg_eval (by simp -dsimp -implicitDefEqProofs [hvl]; rfl) ?_)
      | with_reducible refine wp_region (seg_eval (by simp -dsimp -implicitDefEqProofs [hvl]; rfl) ?_)
      | with_reducible refine wp_drawsS (seg_eval (by simp -dsimp -implicitDefEqProofs [hvl]; rfl) ?_)
      | with_reducible refine wp_draws (seg_eval (by simp -dsimp -implicitDefEqProofs [hvl]; rfl) ?_)
      | with_reducible refine seg_fin ?_
      | with_reducible refine seg_pan ?_
      | with_reducible refine seg_both ?_ ?_
      | with_reducible refine seg_case (fun x h => ?_) (fun h => ?_)
      | with_reducible refine seg_gate (fun h => ?_) (fun h => ?_)
      | with_reducible refine seg_need ?_ ?_
      | with_reducible refine wp_assoc ?_ | with_reducible refine wp_skipS ?_ | with_reducible refine wp_retS ?_ | with_reducible refine wp_exitS ?_ | with_reducible refine wp_dropS (wp_eqT (by simp -dsimp -implicitDefEqProofs [hvl]; rfl) ?_) | with_reducible refine wp_sealS (by simp -dsimp -implicitDefEqProofs [hvl]; rfl) ?_ | with_reducible refine wp_seal (by simp -dsimp -implicitDefEqProofs [hvl]; rfl) ?_ | with_reducible refine wp_closeS (by simp -dsimp -implicitDefEqProofs [hvl]; rfl) ?_ | with_reducible refine wp_close (by simp -dsimp -implicitDefEqProofs [hvl]; rfl) ?_ | with_reducible refine wp_conc_out ?_ | with_reducible refine wp_open_out ?_ | with_reducible refine wp_pack_out ?_ | with_reducible refine wp_blockS ?_ | with_reducible refine wp_skip' ?_ | with_reducible refine wp_ret' ?_ | with_reducible refine wp_exit' ?_ | with_reducible refine wp_drop (wp_eqT (by simp -dsimp -implicitDefEqProofs [hvl]; rfl) ?_) | with_reducible refine wp_block' ?_
      | with_reducible refine wp_condVS (by simp -dsimp -implicitDefEqProofs [hvl]; rfl) ?_
      | with_reducible refine wp_condV (by simp -dsimp -implicitDefEqProofs [hvl]; rfl) ?_
      | with_reducible refine cond_t ?_ | with_reducible refine cond_f ?_ | with_reducible refine cond_v (fun h => ?_) (fun h => ?_)
      | with_reducible refine post_then ?_ | with_reducible refine post_thenE ?_ | with_reducible refine post_thenP ?_ | with_reducible refine post_blkP ?_ | with_reducible refine post_thenR ?_ | with_reducible refine post_blkN ?_ | with_reducible refine post_blkE ?_ | with_reducible refine post_blkF rfl ?_ | with_reducible refine post_blkR ?_
      | with_reducible refine seg_eval (by simp -dsimp -implicitDefEqProofs [hvl]; rfl) ?_
  refine wp_loop' (fun j ts mm => ∃ i : Nat, i + j = 16 ∧ (∀ k n, k < i → v[k]? = some n → n < 1000 ∧ (0 < n → hasS s k = true)) ∧
    ts = [(2, .fptr (.agg [.v (.int .u16 (s : Int)), .fsl 17 es]) 0), (7, .agg (vc v)), (8, .v (.int .i64 i))] ∧ mm = []) 16 ?_ ?_
  · exact ⟨[], [], by simp, by simp, 0, by omega, fun k n hk => by omega, by simp, by simp⟩
  · rintro j ts mm ⟨i, hi, hlo, rfl, rfl⟩
    by_cases hlt : i < 16
    · obtain ⟨x, hx⟩ : ∃ x, v[i]? = some x := ⟨_, List.getElem?_eq_getElem (by omega)⟩
      have hx6 := okV_at hv hx
      have hd : decide ((i : Int) < 16) = true := by rw [decide_eq_true_eq]; omega
      have hd2 : decide (i < 16) = true := by simp [hlt]
      have h64 : IntKind.wrap .i64 ((i : Int) + 1) = ((i + 1 : Nat) : Int) := by rw [IntWalk.i64_in _ (by omega)]; rfl
      have h8 : IntKind.wrap .u8 (i : Int) = (i : Int) := IntWalk.u8_in _ (by omega)
      have hgx := take_drop_one hx
      have hi16 : i + 1 ≤ 16 := by omega
      by_cases h1 : x < 1000
      · have c1 : decide ((1000 : Int) ≤ (x : Int)) = false := by rw [decide_eq_false_iff_not]; omega
        have c1n : decide (1000 ≤ x) = false := by rw [decide_eq_false_iff_not]; omega
        by_cases h0 : 0 < x
        · have c2 : decide ((0 : Int) < (x : Int)) = true := by rw [decide_eq_true_eq]; omega
          have c2n : decide (0 < x) = true := by rw [decide_eq_true_eq]; omega
          cases hh : hasS s i
          · have hno : fitsB s v = false := fits_no fun hF => by have := (hF i x hx).2 h0; rw [hh] at this; cases this
            rw [hno]
            repeat' first
                | with_reducible refine wp_regionS (seg_eval (by simp -dsimp -implicitDefEqProofs [hvl, hd, hd2, h64, h8, hgx, hi16, c1, c1n, c2, c2n, hh, hsl, spHas]; rfl) ?_)
                | with_reducible refine wp_region (seg_eval (by simp -dsimp -implicitDefEqProofs [hvl, hd, hd2, h64, h8, hgx, hi16, c1, c1n, c2, c2n, hh, hsl, spHas]; rfl) ?_)
                | with_reducible refine wp_drawsS (seg_eval (by simp -dsimp -implicitDefEqProofs [hvl, hd, hd2, h64, h8, hgx, hi16, c1, c1n, c2, c2n, hh, hsl, spHas]; rfl) ?_)
                | with_reducible refine wp_draws (seg_eval (by simp -dsimp -implicitDefEqProofs [hvl, hd, hd2, h64, h8, hgx, hi16, c1, c1n, c2, c2n, hh, hsl, spHas]; rfl) ?_)
                | with_reducible refine seg_fin ?_
                | with_reducible refine seg_pan ?_
                | with_reducible refine seg_both ?_ ?_
                | with_reducible refine seg_case (fun x h => ?_) (fun h => ?_)
                | with_reducible refine seg_gate (fun h => ?_) (fun h => ?_)
                | with_reducible refine seg_need ?_ ?_
                | with_reducible refine wp_assoc ?_ | with_reducible refine wp_skipS ?_ | with_reducible refine wp_retS ?_ | with_reducible refine wp_exitS ?_ | with_reducible refine wp_dropS (wp_eqT (by simp -dsimp -implicitDefEqProofs [hvl, hd, hd2, h64, h8, hgx, hi16, c1, c1n, c2, c2n, hh, hsl, spHas]; rfl) ?_) | with_reducible refine wp_sealS (by simp -dsimp -implicitDefEqProofs [hvl, hd, hd2, h64, h8, hgx, hi16, c1, c1n, c2, c2n, hh, hsl, spHas]; rfl) ?_ | with_reducible refine wp_seal (by simp -dsimp -implicitDefEqProofs [hvl, hd, hd2, h64, h8, hgx, hi16, c1, c1n, c2, c2n, hh, hsl, spHas]; rfl) ?_ | with_reducible refine wp_closeS (by simp -dsimp -implicitDefEqProofs [hvl, hd, hd2, h64, h8, hgx, hi16, c1, c1n, c2, c2n, hh, hsl, spHas]; rfl) ?_ | with_reducible refine wp_close (by simp -dsimp -implicitDefEqProofs [hvl, hd, hd2, h64, h8, hgx, hi16, c1, c1n, c2, c2n, hh, hsl, spHas]; rfl) ?_ | with_reducible refine wp_conc_out ?_ | with_reducible refine wp_open_out ?_ | with_reducible refine wp_pack_out ?_ | with_reducible refine wp_blockS ?_ | with_reducible refine wp_skip' ?_ | with_reducible refine wp_ret' ?_ | with_reducible refine wp_exit' ?_ | with_reducible refine wp_drop (wp_eqT (by simp -dsimp -implicitDefEqProofs [hvl, hd, hd2, h64, h8, hgx, hi16, c1, c1n, c2, c2n, hh, hsl, spHas]; rfl) ?_) | with_reducible refine wp_block' ?_
                | with_reducible refine wp_condVS (by simp -dsimp -implicitDefEqProofs [hvl, hd, hd2, h64, h8, hgx, hi16, c1, c1n, c2, c2n, hh, hsl, spHas]; rfl) ?_
                | with_reducible refine wp_condV (by simp -dsimp -implicitDefEqProofs [hvl, hd, hd2, h64, h8, hgx, hi16, c1, c1n, c2, c2n, hh, hsl, spHas]; rfl) ?_
                | with_reducible refine cond_t ?_ | with_reducible refine cond_f ?_ | with_reducible refine cond_v (fun h => ?_) (fun h => ?_)
                | with_reducible refine post_then ?_ | with_reducible refine post_thenE ?_ | with_reducible refine post_thenP ?_ | with_reducible refine post_blkP ?_ | with_reducible refine post_thenR ?_ | with_reducible refine post_blkN ?_ | with_reducible refine post_blkE ?_ | with_reducible refine post_blkF rfl ?_ | with_reducible refine post_blkR ?_
                | with_reducible refine seg_eval (by simp -dsimp -implicitDefEqProofs [hvl, hd, hd2, h64, h8, hgx, hi16, c1, c1n, c2, c2n, hh, hsl, spHas]; rfl) ?_
            all_goals first
              | omega
              | exact post_fin rfl rfl ⟨[], [], rfl, rfl, rfl, rfl⟩
              | trace_state
          · repeat' first
                | with_reducible refine wp_regionS (seg_eval (by simp -dsimp -implicitDefEqProofs [hvl, hd, hd2, h64, h8, hgx, hi16, c1, c1n, c2, c2n, hh, hsl, spHas]; rfl) ?_)
                | with_reducible refine wp_region (seg_eval (by simp -dsimp -implicitDefEqProofs [hvl, hd, hd2, h64, h8, hgx, hi16, c1, c1n, c2, c2n, hh, hsl, spHas]; rfl) ?_)
                | with_reducible refine wp_drawsS (seg_eval (by simp -dsimp -implicitDefEqProofs [hvl, hd, hd2, h64, h8, hgx, hi16, c1, c1n, c2, c2n, hh, hsl, spHas]; rfl) ?_)
                | with_reducible refine wp_draws (seg_eval (by simp -dsimp -implicitDefEqProofs [hvl, hd, hd2, h64, h8, hgx, hi16, c1, c1n, c2, c2n, hh, hsl, spHas]; rfl) ?_)
                | with_reducible refine seg_fin ?_
                | with_reducible refine seg_pan ?_
                | with_reducible refine seg_both ?_ ?_
                | with_reducible refine seg_case (fun x h => ?_) (fun h => ?_)
                | with_reducible refine seg_gate (fun h => ?_) (fun h => ?_)
                | with_reducible refine seg_need ?_ ?_
                | with_reducible refine wp_assoc ?_ | with_reducible refine wp_skipS ?_ | with_reducible refine wp_retS ?_ | with_reducible refine wp_exitS ?_ | with_reducible refine wp_dropS (wp_eqT (by simp -dsimp -implicitDefEqProofs [hvl, hd, hd2, h64, h8, hgx, hi16, c1, c1n, c2, c2n, hh, hsl, spHas]; rfl) ?_) | with_reducible refine wp_sealS (by simp -dsimp -implicitDefEqProofs [hvl, hd, hd2, h64, h8, hgx, hi16, c1, c1n, c2, c2n, hh, hsl, spHas]; rfl) ?_ | with_reducible refine wp_seal (by simp -dsimp -implicitDefEqProofs [hvl, hd, hd2, h64, h8, hgx, hi16, c1, c1n, c2, c2n, hh, hsl, spHas]; rfl) ?_ | with_reducible refine wp_closeS (by simp -dsimp -implicitDefEqProofs [hvl, hd, hd2, h64, h8, hgx, hi16, c1, c1n, c2, c2n, hh, hsl, spHas]; rfl) ?_ | with_reducible refine wp_close (by simp -dsimp -implicitDefEqProofs [hvl, hd, hd2, h64, h8, hgx, hi16, c1, c1n, c2, c2n, hh, hsl, spHas]; rfl) ?_ | with_reducible refine wp_conc_out ?_ | with_reducible refine wp_open_out ?_ | with_reducible refine wp_pack_out ?_ | with_reducible refine wp_blockS ?_ | with_reducible refine wp_skip' ?_ | with_reducible refine wp_ret' ?_ | with_reducible refine wp_exit' ?_ | with_reducible refine wp_drop (wp_eqT (by simp -dsimp -implicitDefEqProofs [hvl, hd, hd2, h64, h8, hgx, hi16, c1, c1n, c2, c2n, hh, hsl, spHas]; rfl) ?_) | with_reducible refine wp_block' ?_
                | with_reducible refine wp_condVS (by simp -dsimp -implicitDefEqProofs [hvl, hd, hd2, h64, h8, hgx, hi16, c1, c1n, c2, c2n, hh, hsl, spHas]; rfl) ?_
                | with_reducible refine wp_condV (by simp -dsimp -implicitDefEqProofs [hvl, hd, hd2, h64, h8, hgx, hi16, c1, c1n, c2, c2n, hh, hsl, spHas]; rfl) ?_
                | with_reducible refine cond_t ?_ | with_reducible refine cond_f ?_ | with_reducible refine cond_v (fun h => ?_) (fun h => ?_)
                | with_reducible refine post_then ?_ | with_reducible refine post_thenE ?_ | with_reducible refine post_thenP ?_ | with_reducible refine post_blkP ?_ | with_reducible refine post_thenR ?_ | with_reducible refine post_blkN ?_ | with_reducible refine post_blkE ?_ | with_reducible refine post_blkF rfl ?_ | with_reducible refine post_blkR ?_
                | with_reducible refine seg_eval (by simp -dsimp -implicitDefEqProofs [hvl, hd, hd2, h64, h8, hgx, hi16, c1, c1n, c2, c2n, hh, hsl, spHas]; rfl) ?_
            all_goals first
              | omega
              | exact ⟨j - 1, by omega, [], [], by simp, by simp, i + 1, by omega, fun k n hk hn => by
                  by_cases hki : k = i
                  · subst hki; rw [hx] at hn; cases hn; exact ⟨h1, fun _ => hh⟩
                  · exact hlo k n (by omega) hn, by simp, by simp⟩
              | trace_state
        · have c2 : decide ((0 : Int) < (x : Int)) = false := by rw [decide_eq_false_iff_not]; omega
          have c2n : decide (0 < x) = false := by rw [decide_eq_false_iff_not]; omega
          have hx0 : x = 0 := by omega
          repeat' first
              | with_reducible refine wp_regionS (seg_eval (by simp -dsimp -implicitDefEqProofs [hvl, hd, hd2, h64, h8, hgx, hi16, c1, c1n, c2, c2n, hsl, spHas]; rfl) ?_)
              | with_reducible refine wp_region (seg_eval (by simp -dsimp -implicitDefEqProofs [hvl, hd, hd2, h64, h8, hgx, hi16, c1, c1n, c2, c2n, hsl, spHas]; rfl) ?_)
              | with_reducible refine wp_drawsS (seg_eval (by simp -dsimp -implicitDefEqProofs [hvl, hd, hd2, h64, h8, hgx, hi16, c1, c1n, c2, c2n, hsl, spHas]; rfl) ?_)
              | with_reducible refine wp_draws (seg_eval (by simp -dsimp -implicitDefEqProofs [hvl, hd, hd2, h64, h8, hgx, hi16, c1, c1n, c2, c2n, hsl, spHas]; rfl) ?_)
              | with_reducible refine seg_fin ?_
              | with_reducible refine seg_pan ?_
              | with_reducible refine seg_both ?_ ?_
              | with_reducible refine seg_case (fun x h => ?_) (fun h => ?_)
              | with_reducible refine seg_gate (fun h => ?_) (fun h => ?_)
              | with_reducible refine seg_need ?_ ?_
              | with_reducible refine wp_assoc ?_ | with_reducible refine wp_skipS ?_ | with_reducible refine wp_retS ?_ | with_reducible refine wp_exitS ?_ | with_reducible refine wp_dropS (wp_eqT (by simp -dsimp -implicitDefEqProofs [hvl, hd, hd2, h64, h8, hgx, hi16, c1, c1n, c2, c2n, hsl, spHas]; rfl) ?_) | with_reducible refine wp_sealS (by simp -dsimp -implicitDefEqProofs [hvl, hd, hd2, h64, h8, hgx, hi16, c1, c1n, c2, c2n, hsl, spHas]; rfl) ?_ | with_reducible refine wp_seal (by simp -dsimp -implicitDefEqProofs [hvl, hd, hd2, h64, h8, hgx, hi16, c1, c1n, c2, c2n, hsl, spHas]; rfl) ?_ | with_reducible refine wp_closeS (by simp -dsimp -implicitDefEqProofs [hvl, hd, hd2, h64, h8, hgx, hi16, c1, c1n, c2, c2n, hsl, spHas]; rfl) ?_ | with_reducible refine wp_close (by simp -dsimp -implicitDefEqProofs [hvl, hd, hd2, h64, h8, hgx, hi16, c1, c1n, c2, c2n, hsl, spHas]; rfl) ?_ | with_reducible refine wp_conc_out ?_ | with_reducible refine wp_open_out ?_ | with_reducible refine wp_pack_out ?_ | with_reducible refine wp_blockS ?_ | with_reducible refine wp_skip' ?_ | with_reducible refine wp_ret' ?_ | with_reducible refine wp_exit' ?_ | with_reducible refine wp_drop (wp_eqT (by simp -dsimp -implicitDefEqProofs [hvl, hd, hd2, h64, h8, hgx, hi16, c1, c1n, c2, c2n, hsl, spHas]; rfl) ?_) | with_reducible refine wp_block' ?_
              | with_reducible refine wp_condVS (by simp -dsimp -implicitDefEqProofs [hvl, hd, hd2, h64, h8, hgx, hi16, c1, c1n, c2, c2n, hsl, spHas]; rfl) ?_
              | with_reducible refine wp_condV (by simp -dsimp -implicitDefEqProofs [hvl, hd, hd2, h64, h8, hgx, hi16, c1, c1n, c2, c2n, hsl, spHas]; rfl) ?_
              | with_reducible refine cond_t ?_ | with_reducible refine cond_f ?_ | with_reducible refine cond_v (fun h => ?_) (fun h => ?_)
              | with_reducible refine post_then ?_ | with_reducible refine post_thenE ?_ | with_reducible refine post_thenP ?_ | with_reducible refine post_blkP ?_ | with_reducible refine post_thenR ?_ | with_reducible refine post_blkN ?_ | with_reducible refine post_blkE ?_ | with_reducible refine post_blkF rfl ?_ | with_reducible refine post_blkR ?_
              | with_reducible refine seg_eval (by simp -dsimp -implicitDefEqProofs [hvl, hd, hd2, h64, h8, hgx, hi16, c1, c1n, c2, c2n, hsl, spHas]; rfl) ?_
          all_goals first
            | omega
            | exact ⟨j - 1, by omega, [], [], by simp, by simp, i + 1, by omega, fun k n hk hn => by
                by_cases hki : k = i
                · subst hki; rw [hx] at hn; cases hn; exact ⟨h1, fun h => by omega⟩
                · exact hlo k n (by omega) hn, by simp, by simp⟩
            | trace_state
      · have c1 : decide ((1000 : Int) ≤ (x : Int)) = true := by rw [decide_eq_true_eq]; omega
        have c1n : decide (1000 ≤ x) = true := by rw [decide_eq_true_eq]; omega
        have hno : fitsB s v = false := fits_no fun hF => by have := (hF i x hx).1; omega
        rw [hno]
        repeat' first
            | with_reducible refine wp_regionS (seg_eval (by simp -dsimp -implicitDefEqProofs [hvl, hd, hd2, h64, h8, hgx, hi16, c1, c1n, hsl]; rfl) ?_)
            | with_reducible refine wp_region (seg_eval (by simp -dsimp -implicitDefEqProofs [hvl, hd, hd2, h64, h8, hgx, hi16, c1, c1n, hsl]; rfl) ?_)
            | with_reducible refine wp_drawsS (seg_eval (by simp -dsimp -implicitDefEqProofs [hvl, hd, hd2, h64, h8, hgx, hi16, c1, c1n, hsl]; rfl) ?_)
            | with_reducible refine wp_draws (seg_eval (by simp -dsimp -implicitDefEqProofs [hvl, hd, hd2, h64, h8, hgx, hi16, c1, c1n, hsl]; rfl) ?_)
            | with_reducible refine seg_fin ?_
            | with_reducible refine seg_pan ?_
            | with_reducible refine seg_both ?_ ?_
            | with_reducible refine seg_case (fun x h => ?_) (fun h => ?_)
            | with_reducible refine seg_gate (fun h => ?_) (fun h => ?_)
            | with_reducible refine seg_need ?_ ?_
            | with_reducible refine wp_assoc ?_ | with_reducible refine wp_skipS ?_ | with_reducible refine wp_retS ?_ | with_reducible refine wp_exitS ?_ | with_reducible refine wp_dropS (wp_eqT (by simp -dsimp -implicitDefEqProofs [hvl, hd, hd2, h64, h8, hgx, hi16, c1, c1n, hsl]; rfl) ?_) | with_reducible refine wp_sealS (by simp -dsimp -implicitDefEqProofs [hvl, hd, hd2, h64, h8, hgx, hi16, c1, c1n, hsl]; rfl) ?_ | with_reducible refine wp_seal (by simp -dsimp -implicitDefEqProofs [hvl, hd, hd2, h64, h8, hgx, hi16, c1, c1n, hsl]; rfl) ?_ | with_reducible refine wp_closeS (by simp -dsimp -implicitDefEqProofs [hvl, hd, hd2, h64, h8, hgx, hi16, c1, c1n, hsl]; rfl) ?_ | with_reducible refine wp_close (by simp -dsimp -implicitDefEqProofs [hvl, hd, hd2, h64, h8, hgx, hi16, c1, c1n, hsl]; rfl) ?_ | with_reducible refine wp_conc_out ?_ | with_reducible refine wp_open_out ?_ | with_reducible refine wp_pack_out ?_ | with_reducible refine wp_blockS ?_ | with_reducible refine wp_skip' ?_ | with_reducible refine wp_ret' ?_ | with_reducible refine wp_exit' ?_ | with_reducible refine wp_drop (wp_eqT (by simp -dsimp -implicitDefEqProofs [hvl, hd, hd2, h64, h8, hgx, hi16, c1, c1n, hsl]; rfl) ?_) | with_reducible refine wp_block' ?_
            | with_reducible refine wp_condVS (by simp -dsimp -implicitDefEqProofs [hvl, hd, hd2, h64, h8, hgx, hi16, c1, c1n, hsl]; rfl) ?_
            | with_reducible refine wp_condV (by simp -dsimp -implicitDefEqProofs [hvl, hd, hd2, h64, h8, hgx, hi16, c1, c1n, hsl]; rfl) ?_
            | with_reducible refine cond_t ?_ | with_reducible refine cond_f ?_ | with_reducible refine cond_v (fun h => ?_) (fun h => ?_)
            | with_reducible refine post_then ?_ | with_reducible refine post_thenE ?_ | with_reducible refine post_thenP ?_ | with_reducible refine post_blkP ?_ | with_reducible refine post_thenR ?_ | with_reducible refine post_blkN ?_ | with_reducible refine post_blkE ?_ | with_reducible refine post_blkF rfl ?_ | with_reducible refine post_blkR ?_
            | with_reducible refine seg_eval (by simp -dsimp -implicitDefEqProofs [hvl, hd, hd2, h64, h8, hgx, hi16, c1, c1n, hsl]; rfl) ?_
        all_goals first
          | omega
          | exact post_fin rfl rfl ⟨[], [], rfl, rfl, rfl, rfl⟩
          | trace_state
    · have hd : decide ((i : Int) < 16) = false := by rw [decide_eq_false_iff_not]; omega
      have hd2 : decide (i < 16) = false := by simp [hlt]
      have hyes : fitsB s v = true := fits_yes fun k n hn => hlo k n (by have := (List.getElem?_eq_some_iff.1 hn).1; omega) hn
      rw [hyes]
      repeat' first
          | with_reducible refine wp_regionS (seg_eval (by simp -dsimp -implicitDefEqProofs [hd, hd2]; rfl) ?_)
          | with_reducible refine wp_region (seg_eval (by simp -dsimp -implicitDefEqProofs [hd, hd2]; rfl) ?_)
          | with_reducible refine wp_drawsS (seg_eval (by simp -dsimp -implicitDefEqProofs [hd, hd2]; rfl) ?_)
          | with_reducible refine wp_draws (seg_eval (by simp -dsimp -implicitDefEqProofs [hd, hd2]; rfl) ?_)
          | with_reducible refine seg_fin ?_
          | with_reducible refine seg_pan ?_
          | with_reducible refine seg_both ?_ ?_
          | with_reducible refine seg_case (fun x h => ?_) (fun h => ?_)
          | with_reducible refine seg_gate (fun h => ?_) (fun h => ?_)
          | with_reducible refine seg_need ?_ ?_
          | with_reducible refine wp_assoc ?_ | with_reducible refine wp_skipS ?_ | with_reducible refine wp_retS ?_ | with_reducible refine wp_exitS ?_ | with_reducible refine wp_dropS (wp_eqT (by simp -dsimp -implicitDefEqProofs [hd, hd2]; rfl) ?_) | with_reducible refine wp_sealS (by simp -dsimp -implicitDefEqProofs [hd, hd2]; rfl) ?_ | with_reducible refine wp_seal (by simp -dsimp -implicitDefEqProofs [hd, hd2]; rfl) ?_ | with_reducible refine wp_closeS (by simp -dsimp -implicitDefEqProofs [hd, hd2]; rfl) ?_ | with_reducible refine wp_close (by simp -dsimp -implicitDefEqProofs [hd, hd2]; rfl) ?_ | with_reducible refine wp_conc_out ?_ | with_reducible refine wp_open_out ?_ | with_reducible refine wp_pack_out ?_ | with_reducible refine wp_blockS ?_ | with_reducible refine wp_skip' ?_ | with_reducible refine wp_ret' ?_ | with_reducible refine wp_exit' ?_ | with_reducible refine wp_drop (wp_eqT (by simp -dsimp -implicitDefEqProofs [hd, hd2]; rfl) ?_) | with_reducible refine wp_block' ?_
          | with_reducible refine wp_condVS (by simp -dsimp -implicitDefEqProofs [hd, hd2]; rfl) ?_
          | with_reducible refine wp_condV (by simp -dsimp -implicitDefEqProofs [hd, hd2]; rfl) ?_
          | with_reducible refine cond_t ?_ | with_reducible refine cond_f ?_ | with_reducible refine cond_v (fun h => ?_) (fun h => ?_)
          | with_reducible refine post_then ?_ | with_reducible refine post_thenE ?_ | with_reducible refine post_thenP ?_ | with_reducible refine post_blkP ?_ | with_reducible refine post_thenR ?_ | with_reducible refine post_blkN ?_ | with_reducible refine post_blkE ?_ | with_reducible refine post_blkF rfl ?_ | with_reducible refine post_blkR ?_
          | with_reducible refine seg_eval (by simp -dsimp -implicitDefEqProofs [hd, hd2]; rfl) ?_
      all_goals first
        | omega
        | exact post_fin rfl rfl ⟨[], [], rfl, rfl, rfl, rfl⟩
        | trace_state
set_option maxHeartbeats 4000000 in
theorem fitsR_ok : CallOk Try.prog 48 spFitsR := by
  refine ok_48 (Env.put_ok [] (Env.none_ok _) hasR_ok) spFitsR (wb_spc ?_)
  rintro ⟨s, v⟩ ⟨hs0, hs1, hv⟩
  simp only at hs0 hs1 hv ⊢
  obtain ⟨s, rfl⟩ := Int.eq_ofNat_of_zero_le hs0
  simp only [Int.toNat_natCast]
  have hvl := hv.1
  have hsl : (s : Int) < 65536 := hs1
  unfold ac_48
  repeat' first
      | with_reducible refine wp_regionS (seg_eval (by simp -dsimp -implicitDefEqProofs [hvl]; rfl) ?_)
      | with_reducible refine wp_region (seg_eval (by simp -dsimp -implicitDefEqProofs [hvl]; rfl) ?_)
      | with_reducible refine wp_drawsS (seg_eval (by simp -dsimp -implicitDefEqProofs [hvl]; rfl) ?_)
      | with_reducible refine wp_draws (seg_eval (by simp -dsimp -implicitDefEqProofs [hvl]; rfl) ?_)
      | with_reducible refine seg_fin ?_
      | with_reducible refine seg_pan ?_
      | with_reducible refine seg_both ?_ ?_
      | with_reducible refine seg_case (fun x h => ?_) (fun h => ?_)
      | with_reducible refine seg_gate (fun h => ?_) (fun h => ?_)
      | with_reducible refine seg_need ?_ ?_
      | with_reducible refine wp_assoc ?_ | with_reducible refine wp_skipS ?_ | with_reducible refine wp_retS ?_ | with_reducible refine wp_exitS ?_ | with_reducible refine wp_dropS (wp_eqT (by simp -dsimp -implicitDefEqProofs [hvl]; rfl) ?_) | with_reducible refine wp_sealS (by simp -dsimp -implicitDefEqProofs [hvl]; rfl) ?_ | with_reducible refine wp_seal (by simp -dsimp -implicitDefEqProofs [hvl]; rfl) ?_ | with_reducible refine wp_closeS (by simp -dsimp -implicitDefEqProofs [hvl]; rfl) ?_ | with_reducible refine wp_close (by simp -dsimp -implicitDefEqProofs [hvl]; rfl) ?_ | with_reducible refine wp_conc_out ?_ | with_reducible refine wp_open_out ?_ | with_reducible refine wp_pack_out ?_ | with_reducible refine wp_blockS ?_ | with_reducible refine wp_skip' ?_ | with_reducible refine wp_ret' ?_ | with_reducible refine wp_exit' ?_ | with_reducible refine wp_drop (wp_eqT (by simp -dsimp -implicitDefEqProofs [hvl]; rfl) ?_) | with_reducible refine wp_block' ?_
      | with_reducible refine wp_condVS (by simp -dsimp -implicitDefEqProofs [hvl]; rfl) ?_
      | with_reducible refine wp_condV (by simp -dsimp -implicitDefEqProofs [hvl]; rfl) ?_
      | with_reducible refine cond_t ?_ | with_reducible refine cond_f ?_ | with_reducible refine cond_v (fun h => ?_) (fun h => ?_)
      | with_reducible refine post_then ?_ | with_reducible refine post_thenE ?_ | with_reducible refine post_thenP ?_ | with_reducible refine post_blkP ?_ | with_reducible refine post_thenR ?_ | with_reducible refine post_blkN ?_ | with_reducible refine post_blkE ?_ | with_reducible refine post_blkF rfl ?_ | with_reducible refine post_blkR ?_
      | with_reducible refine seg_eval (by simp -dsimp -implicitDefEqProofs [hvl]; rfl) ?_
  refine wp_loop' (fun j ts mm => ∃ i : Nat, i + j = 16 ∧ (∀ k n, k < i → v[k]? = some n → n < 1000 ∧ (0 < n → hasS s k = true)) ∧
    ts = [(0, .v (.int .u16 (s : Int))), (3, .fptr (.agg (vc v)) 0), (5, .v (.int .i64 i))] ∧ mm = []) 16 ?_ ?_
  · exact ⟨[], [], by simp, by simp, 0, by omega, fun k n hk => by omega, by simp, by simp⟩
  · rintro j ts mm ⟨i, hi, hlo, rfl, rfl⟩
    by_cases hlt : i < 16
    · obtain ⟨x, hx⟩ : ∃ x, v[i]? = some x := ⟨_, List.getElem?_eq_getElem (by omega)⟩
      have hx6 := okV_at hv hx
      have hd : decide ((i : Int) < 16) = true := by rw [decide_eq_true_eq]; omega
      have hd2 : decide (i < 16) = true := by simp [hlt]
      have h64 : IntKind.wrap .i64 ((i : Int) + 1) = ((i + 1 : Nat) : Int) := by rw [IntWalk.i64_in _ (by omega)]; rfl
      have h8 : IntKind.wrap .u8 (i : Int) = (i : Int) := IntWalk.u8_in _ (by omega)
      have hgx := take_drop_one hx
      have hi16 : i + 1 ≤ 16 := by omega
      by_cases h1 : x < 1000
      · have c1 : decide ((1000 : Int) ≤ (x : Int)) = false := by rw [decide_eq_false_iff_not]; omega
        have c1n : decide (1000 ≤ x) = false := by rw [decide_eq_false_iff_not]; omega
        by_cases h0 : 0 < x
        · have c2 : decide ((0 : Int) < (x : Int)) = true := by rw [decide_eq_true_eq]; omega
          have c2n : decide (0 < x) = true := by rw [decide_eq_true_eq]; omega
          cases hh : hasS s i
          · have hno : fitsB s v = false := fits_no fun hF => by have := (hF i x hx).2 h0; rw [hh] at this; cases this
            rw [hno]
            repeat' first
                | with_reducible refine wp_regionS (seg_eval (by simp -dsimp -implicitDefEqProofs [hvl, hd, hd2, h64, h8, hgx, hi16, c1, c1n, c2, c2n, hh, hsl, spHas]; rfl) ?_)
                | with_reducible refine wp_region (seg_eval (by simp -dsimp -implicitDefEqProofs [hvl, hd, hd2, h64, h8, hgx, hi16, c1, c1n, c2, c2n, hh, hsl, spHas]; rfl) ?_)
                | with_reducible refine wp_drawsS (seg_eval (by simp -dsimp -implicitDefEqProofs [hvl, hd, hd2, h64, h8, hgx, hi16, c1, c1n, c2, c2n, hh, hsl, spHas]; rfl) ?_)
                | with_reducible refine wp_draws (seg_eval (by simp -dsimp -implicitDefEqProofs [hvl, hd, hd2, h64, h8, hgx, hi16, c1, c1n, c2, c2n, hh, hsl, spHas]; rfl) ?_)
                | with_reducible refine seg_fin ?_
                | with_reducible refine seg_pan ?_
                | with_reducible refine seg_both ?_ ?_
                | with_reducible refine seg_case (fun x h => ?_) (fun h => ?_)
                | with_reducible refine seg_gate (fun h => ?_) (fun h => ?_)
                | with_reducible refine seg_need ?_ ?_
                | with_reducible refine wp_assoc ?_ | with_reducible refine wp_skipS ?_ | with_reducible refine wp_retS ?_ | with_reducible refine wp_exitS ?_ | with_reducible refine wp_dropS (wp_eqT (by simp -dsimp -implicitDefEqProofs [hvl, hd, hd2, h64, h8, hgx, hi16, c1, c1n, c2, c2n, hh, hsl, spHas]; rfl) ?_) | with_reducible refine wp_sealS (by simp -dsimp -implicitDefEqProofs [hvl, hd, hd2, h64, h8, hgx, hi16, c1, c1n, c2, c2n, hh, hsl, spHas]; rfl) ?_ | with_reducible refine wp_seal (by simp -dsimp -implicitDefEqProofs [hvl, hd, hd2, h64, h8, hgx, hi16, c1, c1n, c2, c2n, hh, hsl, spHas]; rfl) ?_ | with_reducible refine wp_closeS (by simp -dsimp -implicitDefEqProofs [hvl, hd, hd2, h64, h8, hgx, hi16, c1, c1n, c2, c2n, hh, hsl, spHas]; rfl) ?_ | with_reducible refine wp_close (by simp -dsimp -implicitDefEqProofs [hvl, hd, hd2, h64, h8, hgx, hi16, c1, c1n, c2, c2n, hh, hsl, spHas]; rfl) ?_ | with_reducible refine wp_conc_out ?_ | with_reducible refine wp_open_out ?_ | with_reducible refine wp_pack_out ?_ | with_reducible refine wp_blockS ?_ | with_reducible refine wp_skip' ?_ | with_reducible refine wp_ret' ?_ | with_reducible refine wp_exit' ?_ | with_reducible refine wp_drop (wp_eqT (by simp -dsimp -implicitDefEqProofs [hvl, hd, hd2, h64, h8, hgx, hi16, c1, c1n, c2, c2n, hh, hsl, spHas]; rfl) ?_) | with_reducible refine wp_block' ?_
                | with_reducible refine wp_condVS (by simp -dsimp -implicitDefEqProofs [hvl, hd, hd2, h64, h8, hgx, hi16, c1, c1n, c2, c2n, hh, hsl, spHas]; rfl) ?_
                | with_reducible refine wp_condV (by simp -dsimp -implicitDefEqProofs [hvl, hd, hd2, h64, h8, hgx, hi16, c1, c1n, c2, c2n, hh, hsl, spHas]; rfl) ?_
                | with_reducible refine cond_t ?_ | with_reducible refine cond_f ?_ | with_reducible refine cond_v (fun h => ?_) (fun h => ?_)
                | with_reducible refine post_then ?_ | with_reducible refine post_thenE ?_ | with_reducible refine post_thenP ?_ | with_reducible refine post_blkP ?_ | with_reducible refine post_thenR ?_ | with_reducible refine post_blkN ?_ | with_reducible refine post_blkE ?_ | with_reducible refine post_blkF rfl ?_ | with_reducible refine post_blkR ?_
                | with_reducible refine seg_eval (by simp -dsimp -implicitDefEqProofs [hvl, hd, hd2, h64, h8, hgx, hi16, c1, c1n, c2, c2n, hh, hsl, spHas]; rfl) ?_
            all_goals first
              | omega
              | exact post_fin rfl rfl ⟨[], [], rfl, rfl, rfl, rfl⟩
              | trace_state
          · repeat' first
                | with_reducible refine wp_regionS (seg_eval (by simp -dsimp -implicitDefEqProofs [hvl, hd, hd2, h64, h8, hgx, hi16, c1, c1n, c2, c2n, hh, hsl, spHas]; rfl) ?_)
                | with_reducible refine wp_region (seg_eval (by simp -dsimp -implicitDefEqProofs [hvl, hd, hd2, h64, h8, hgx, hi16, c1, c1n, c2, c2n, hh, hsl, spHas]; rfl) ?_)
                | with_reducible refine wp_drawsS (seg_eval (by simp -dsimp -implicitDefEqProofs [hvl, hd, hd2, h64, h8, hgx, hi16, c1, c1n, c2, c2n, hh, hsl, spHas]; rfl) ?_)
                | with_reducible refine wp_draws (seg_eval (by simp -dsimp -implicitDefEqProofs [hvl, hd, hd2, h64, h8, hgx, hi16, c1, c1n, c2, c2n, hh, hsl, spHas]; rfl) ?_)
                | with_reducible refine seg_fin ?_
                | with_reducible refine seg_pan ?_
                | with_reducible refine seg_both ?_ ?_
                | with_reducible refine seg_case (fun x h => ?_) (fun h => ?_)
                | with_reducible refine seg_gate (fun h => ?_) (fun h => ?_)
                | with_reducible refine seg_need ?_ ?_
                | with_reducible refine wp_assoc ?_ | with_reducible refine wp_skipS ?_ | with_reducible refine wp_retS ?_ | with_reducible refine wp_exitS ?_ | with_reducible refine wp_dropS (wp_eqT (by simp -dsimp -implicitDefEqProofs [hvl, hd, hd2, h64, h8, hgx, hi16, c1, c1n, c2, c2n, hh, hsl, spHas]; rfl) ?_) | with_reducible refine wp_sealS (by simp -dsimp -implicitDefEqProofs [hvl, hd, hd2, h64, h8, hgx, hi16, c1, c1n, c2, c2n, hh, hsl, spHas]; rfl) ?_ | with_reducible refine wp_seal (by simp -dsimp -implicitDefEqProofs [hvl, hd, hd2, h64, h8, hgx, hi16, c1, c1n, c2, c2n, hh, hsl, spHas]; rfl) ?_ | with_reducible refine wp_closeS (by simp -dsimp -implicitDefEqProofs [hvl, hd, hd2, h64, h8, hgx, hi16, c1, c1n, c2, c2n, hh, hsl, spHas]; rfl) ?_ | with_reducible refine wp_close (by simp -dsimp -implicitDefEqProofs [hvl, hd, hd2, h64, h8, hgx, hi16, c1, c1n, c2, c2n, hh, hsl, spHas]; rfl) ?_ | with_reducible refine wp_conc_out ?_ | with_reducible refine wp_open_out ?_ | with_reducible refine wp_pack_out ?_ | with_reducible refine wp_blockS ?_ | with_reducible refine wp_skip' ?_ | with_reducible refine wp_ret' ?_ | with_reducible refine wp_exit' ?_ | with_reducible refine wp_drop (wp_eqT (by simp -dsimp -implicitDefEqProofs [hvl, hd, hd2, h64, h8, hgx, hi16, c1, c1n, c2, c2n, hh, hsl, spHas]; rfl) ?_) | with_reducible refine wp_block' ?_
                | with_reducible refine wp_condVS (by simp -dsimp -implicitDefEqProofs [hvl, hd, hd2, h64, h8, hgx, hi16, c1, c1n, c2, c2n, hh, hsl, spHas]; rfl) ?_
                | with_reducible refine wp_condV (by simp -dsimp -implicitDefEqProofs [hvl, hd, hd2, h64, h8, hgx, hi16, c1, c1n, c2, c2n, hh, hsl, spHas]; rfl) ?_
                | with_reducible refine cond_t ?_ | with_reducible refine cond_f ?_ | with_reducible refine cond_v (fun h => ?_) (fun h => ?_)
                | with_reducible refine post_then ?_ | with_reducible refine post_thenE ?_ | with_reducible refine post_thenP ?_ | with_reducible refine post_blkP ?_ | with_reducible refine post_thenR ?_ | with_reducible refine post_blkN ?_ | with_reducible refine post_blkE ?_ | with_reducible refine post_blkF rfl ?_ | with_reducible refine post_blkR ?_
                | with_reducible refine seg_eval (by simp -dsimp -implicitDefEqProofs [hvl, hd, hd2, h64, h8, hgx, hi16, c1, c1n, c2, c2n, hh, hsl, spHas]; rfl) ?_
            all_goals first
              | omega
              | exact ⟨j - 1, by omega, [], [], by simp, by simp, i + 1, by omega, fun k n hk hn => by
                  by_cases hki : k = i
                  · subst hki; rw [hx] at hn; cases hn; exact ⟨h1, fun _ => hh⟩
                  · exact hlo k n (by omega) hn, by simp, by simp⟩
              | trace_state
        · have c2 : decide ((0 : Int) < (x : Int)) = false := by rw [decide_eq_false_iff_not]; omega
          have c2n : decide (0 < x) = false := by rw [decide_eq_false_iff_not]; omega
          have hx0 : x = 0 := by omega
          repeat' first
              | with_reducible refine wp_regionS (seg_eval (by simp -dsimp -implicitDefEqProofs [hvl, hd, hd2, h64, h8, hgx, hi16, c1, c1n, c2, c2n, hsl, spHas]; rfl) ?_)
              | with_reducible refine wp_region (seg_eval (by simp -dsimp -implicitDefEqProofs [hvl, hd, hd2, h64, h8, hgx, hi16, c1, c1n, c2, c2n, hsl, spHas]; rfl) ?_)
              | with_reducible refine wp_drawsS (seg_eval (by simp -dsimp -implicitDefEqProofs [hvl, hd, hd2, h64, h8, hgx, hi16, c1, c1n, c2, c2n, hsl, spHas]; rfl) ?_)
              | with_reducible refine wp_draws (seg_eval (by simp -dsimp -implicitDefEqProofs [hvl, hd, hd2, h64, h8, hgx, hi16, c1, c1n, c2, c2n, hsl, spHas]; rfl) ?_)
              | with_reducible refine seg_fin ?_
              | with_reducible refine seg_pan ?_
              | with_reducible refine seg_both ?_ ?_
              | with_reducible refine seg_case (fun x h => ?_) (fun h => ?_)
              | with_reducible refine seg_gate (fun h => ?_) (fun h => ?_)
              | with_reducible refine seg_need ?_ ?_
              | with_reducible refine wp_assoc ?_ | with_reducible refine wp_skipS ?_ | with_reducible refine wp_retS ?_ | with_reducible refine wp_exitS ?_ | with_reducible refine wp_dropS (wp_eqT (by simp -dsimp -implicitDefEqProofs [hvl, hd, hd2, h64, h8, hgx, hi16, c1, c1n, c2, c2n, hsl, spHas]; rfl) ?_) | with_reducible refine wp_sealS (by simp -dsimp -implicitDefEqProofs [hvl, hd, hd2, h64, h8, hgx, hi16, c1, c1n, c2, c2n, hsl, spHas]; rfl) ?_ | with_reducible refine wp_seal (by simp -dsimp -implicitDefEqProofs [hvl, hd, hd2, h64, h8, hgx, hi16, c1, c1n, c2, c2n, hsl, spHas]; rfl) ?_ | with_reducible refine wp_closeS (by simp -dsimp -implicitDefEqProofs [hvl, hd, hd2, h64, h8, hgx, hi16, c1, c1n, c2, c2n, hsl, spHas]; rfl) ?_ | with_reducible refine wp_close (by simp -dsimp -implicitDefEqProofs [hvl, hd, hd2, h64, h8, hgx, hi16, c1, c1n, c2, c2n, hsl, spHas]; rfl) ?_ | with_reducible refine wp_conc_out ?_ | with_reducible refine wp_open_out ?_ | with_reducible refine wp_pack_out ?_ | with_reducible refine wp_blockS ?_ | with_reducible refine wp_skip' ?_ | with_reducible refine wp_ret' ?_ | with_reducible refine wp_exit' ?_ | with_reducible refine wp_drop (wp_eqT (by simp -dsimp -implicitDefEqProofs [hvl, hd, hd2, h64, h8, hgx, hi16, c1, c1n, c2, c2n, hsl, spHas]; rfl) ?_) | with_reducible refine wp_block' ?_
              | with_reducible refine wp_condVS (by simp -dsimp -implicitDefEqProofs [hvl, hd, hd2, h64, h8, hgx, hi16, c1, c1n, c2, c2n, hsl, spHas]; rfl) ?_
              | with_reducible refine wp_condV (by simp -dsimp -implicitDefEqProofs [hvl, hd, hd2, h64, h8, hgx, hi16, c1, c1n, c2, c2n, hsl, spHas]; rfl) ?_
              | with_reducible refine cond_t ?_ | with_reducible refine cond_f ?_ | with_reducible refine cond_v (fun h => ?_) (fun h => ?_)
              | with_reducible refine post_then ?_ | with_reducible refine post_thenE ?_ | with_reducible refine post_thenP ?_ | with_reducible refine post_blkP ?_ | with_reducible refine post_thenR ?_ | with_reducible refine post_blkN ?_ | with_reducible refine post_blkE ?_ | with_reducible refine post_blkF rfl ?_ | with_reducible refine post_blkR ?_
              | with_reducible refine seg_eval (by simp -dsimp -implicitDefEqProofs [hvl, hd, hd2, h64, h8, hgx, hi16, c1, c1n, c2, c2n, hsl, spHas]; rfl) ?_
          all_goals first
            | omega
            | exact ⟨j - 1, by omega, [], [], by simp, by simp, i + 1, by omega, fun k n hk hn => by
                by_cases hki : k = i
                · subst hki; rw [hx] at hn; cases hn; exact ⟨h1, fun h => by omega⟩
                · exact hlo k n (by omega) hn, by simp, by simp⟩
            | trace_state
      · have c1 : decide ((1000 : Int) ≤ (x : Int)) = true := by rw [decide_eq_true_eq]; omega
        have c1n : decide (1000 ≤ x) = true := by rw [decide_eq_true_eq]; omega
        have hno : fitsB s v = false := fits_no fun hF => by have := (hF i x hx).1; omega
        rw [hno]
        repeat' first
            | with_reducible refine wp_regionS (seg_eval (by simp -dsimp -implicitDefEqProofs [hvl, hd, hd2, h64, h8, hgx, hi16, c1, c1n, hsl]; rfl) ?_)
            | with_reducible refine wp_region (seg_eval (by simp -dsimp -implicitDefEqProofs [hvl, hd, hd2, h64, h8, hgx, hi16, c1, c1n, hsl]; rfl) ?_)
            | with_reducible refine wp_drawsS (seg_eval (by simp -dsimp -implicitDefEqProofs [hvl, hd, hd2, h64, h8, hgx, hi16, c1, c1n, hsl]; rfl) ?_)
            | with_reducible refine wp_draws (seg_eval (by simp -dsimp -implicitDefEqProofs [hvl, hd, hd2, h64, h8, hgx, hi16, c1, c1n, hsl]; rfl) ?_)
            | with_reducible refine seg_fin ?_
            | with_reducible refine seg_pan ?_
            | with_reducible refine seg_both ?_ ?_
            | with_reducible refine seg_case (fun x h => ?_) (fun h => ?_)
            | with_reducible refine seg_gate (fun h => ?_) (fun h => ?_)
            | with_reducible refine seg_need ?_ ?_
            | with_reducible refine wp_assoc ?_ | with_reducible refine wp_skipS ?_ | with_reducible refine wp_retS ?_ | with_reducible refine wp_exitS ?_ | with_reducible refine wp_dropS (wp_eqT (by simp -dsimp -implicitDefEqProofs [hvl, hd, hd2, h64, h8, hgx, hi16, c1, c1n, hsl]; rfl) ?_) | with_reducible refine wp_sealS (by simp -dsimp -implicitDefEqProofs [hvl, hd, hd2, h64, h8, hgx, hi16, c1, c1n, hsl]; rfl) ?_ | with_reducible refine wp_seal (by simp -dsimp -implicitDefEqProofs [hvl, hd, hd2, h64, h8, hgx, hi16, c1, c1n, hsl]; rfl) ?_ | with_reducible refine wp_closeS (by simp -dsimp -implicitDefEqProofs [hvl, hd, hd2, h64, h8, hgx, hi16, c1, c1n, hsl]; rfl) ?_ | with_reducible refine wp_close (by simp -dsimp -implicitDefEqProofs [hvl, hd, hd2, h64, h8, hgx, hi16, c1, c1n, hsl]; rfl) ?_ | with_reducible refine wp_conc_out ?_ | with_reducible refine wp_open_out ?_ | with_reducible refine wp_pack_out ?_ | with_reducible refine wp_blockS ?_ | with_reducible refine wp_skip' ?_ | with_reducible refine wp_ret' ?_ | with_reducible refine wp_exit' ?_ | with_reducible refine wp_drop (wp_eqT (by simp -dsimp -implicitDefEqProofs [hvl, hd, hd2, h64, h8, hgx, hi16, c1, c1n, hsl]; rfl) ?_) | with_reducible refine wp_block' ?_
            | with_reducible refine wp_condVS (by simp -dsimp -implicitDefEqProofs [hvl, hd, hd2, h64, h8, hgx, hi16, c1, c1n, hsl]; rfl) ?_
            | with_reducible refine wp_condV (by simp -dsimp -implicitDefEqProofs [hvl, hd, hd2, h64, h8, hgx, hi16, c1, c1n, hsl]; rfl) ?_
            | with_reducible refine cond_t ?_ | with_reducible refine cond_f ?_ | with_reducible refine cond_v (fun h => ?_) (fun h => ?_)
            | with_reducible refine post_then ?_ | with_reducible refine post_thenE ?_ | with_reducible refine post_thenP ?_ | with_reducible refine post_blkP ?_ | with_reducible refine post_thenR ?_ | with_reducible refine post_blkN ?_ | with_reducible refine post_blkE ?_ | with_reducible refine post_blkF rfl ?_ | with_reducible refine post_blkR ?_
            | with_reducible refine seg_eval (by simp -dsimp -implicitDefEqProofs [hvl, hd, hd2, h64, h8, hgx, hi16, c1, c1n, hsl]; rfl) ?_
        all_goals first
          | omega
          | exact post_fin rfl rfl ⟨[], [], rfl, rfl, rfl, rfl⟩
          | trace_state
    · have hd : decide ((i : Int) < 16) = false := by rw [decide_eq_false_iff_not]; omega
      have hd2 : decide (i < 16) = false := by simp [hlt]
      have hyes : fitsB s v = true := fits_yes fun k n hn => hlo k n (by have := (List.getElem?_eq_some_iff.1 hn).1; omega) hn
      rw [hyes]
      repeat' first
          | with_reducible refine wp_regionS (seg_eval (by simp -dsimp -implicitDefEqProofs [hd, hd2]; rfl) ?_)
          | with_reducible refine wp_region (seg_eval (by simp -dsimp -implicitDefEqProofs [hd, hd2]; rfl) ?_)
          | with_reducible refine wp_drawsS (seg_eval (by simp -dsimp -implicitDefEqProofs [hd, hd2]; rfl) ?_)
          | with_reducible refine wp_draws (seg_eval (by simp -dsimp -implicitDefEqProofs [hd, hd2]; rfl) ?_)
          | with_reducible refine seg_fin ?_
          | with_reducible refine seg_pan ?_
          | with_reducible refine seg_both ?_ ?_
          | with_reducible refine seg_case (fun x h => ?_) (fun h => ?_)
          | with_reducible refine seg_gate (fun h => ?_) (fun h => ?_)
          | with_reducible refine seg_need ?_ ?_
          | with_reducible refine wp_assoc ?_ | with_reducible refine wp_skipS ?_ | with_reducible refine wp_retS ?_ | with_reducible refine wp_exitS ?_ | with_reducible refine wp_dropS (wp_eqT (by simp -dsimp -implicitDefEqProofs [hd, hd2]; rfl) ?_) | with_reducible refine wp_sealS (by simp -dsimp -implicitDefEqProofs [hd, hd2]; rfl) ?_ | with_reducible refine wp_seal (by simp -dsimp -implicitDefEqProofs [hd, hd2]; rfl) ?_ | with_reducible refine wp_closeS (by simp -dsimp -implicitDefEqProofs [hd, hd2]; rfl) ?_ | with_reducible refine wp_close (by simp -dsimp -implicitDefEqProofs [hd, hd2]; rfl) ?_ | with_reducible refine wp_conc_out ?_ | with_reducible refine wp_open_out ?_ | with_reducible refine wp_pack_out ?_ | with_reducible refine wp_blockS ?_ | with_reducible refine wp_skip' ?_ | with_reducible refine wp_ret' ?_ | with_reducible refine wp_exit' ?_ | with_reducible refine wp_drop (wp_eqT (by simp -dsimp -implicitDefEqProofs [hd, hd2]; rfl) ?_) | with_reducible refine wp_block' ?_
          | with_reducible refine wp_condVS (by simp -dsimp -implicitDefEqProofs [hd, hd2]; rfl) ?_
          | with_reducible refine wp_condV (by simp -dsimp -implicitDefEqProofs [hd, hd2]; rfl) ?_
          | with_reducible refine cond_t ?_ | with_reducible refine cond_f ?_ | with_reducible refine cond_v (fun h => ?_) (fun h => ?_)
          | with_reducible refine post_then ?_ | with_reducible refine post_thenE ?_ | with_reducible refine post_thenP ?_ | with_reducible refine post_blkP ?_ | with_reducible refine post_thenR ?_ | with_reducible refine post_blkN ?_ | with_reducible refine post_blkE ?_ | with_reducible refine post_blkF rfl ?_ | with_reducible refine post_blkR ?_
          | with_reducible refine seg_eval (by simp -dsimp -implicitDefEqProofs [hd, hd2]; rfl) ?_
      all_goals first
        | omega
        | exact post_fin rfl rfl ⟨[], [], rfl, rfl, rfl, rfl⟩
        | trace_state
end Go.Proofs.Ytbponegjfccgfaa.Am
