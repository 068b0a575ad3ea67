/-
  WHICH FLUSHES MAY BE.
-/
import Derived.Test.YtbponegjfccgfaaFF
namespace Go.Proofs.Ytbponegjfccgfaa.Am
set_option linter.unusedSimpArgs false
set_option linter.unusedVariables false
open Go Go.Proofs
attribute [local irreducible] wpA
attribute [-simp] splice

/-- The marks stand in order, each one a member's, with numbers that may be. -/
def MarksF (s : Nat) (l : List Mk) : Prop := ∀ i m, l[i]? = some m → hasS s m.who.toNat = true ∧ FitsV s m.past ∧ (0 < i → ∀ p, l[i - 1]? = some p → p.who < m.who)
def RightF (s : Nat) (l : List Mk) : Prop := s ≠ 0 ∧ MarksF s l
open Classical in
noncomputable def rightB (s : Nat) (l : List Mk) : Bool := decide (RightF s l)
open Classical in
theorem right_yes {s : Nat} {l : List Mk} (h : RightF s l) : rightB s l = true := by unfold rightB; exact decide_eq_true h
open Classical in
theorem right_no {s : Nat} {l : List Mk} (h : ¬ RightF s l) : rightB s l = false := by unfold rightB; exact decide_eq_false h
open Classical in
theorem right_iff {s : Nat} {l : List Mk} : rightB s l = true ↔ RightF s l := by unfold rightB; exact decide_eq_true_iff

noncomputable def spRight : Spec := spc (X := Int × List Mk) (fun p => ([.agg [.v (.int .u16 p.1), .fsl 17 (p.2.map avMk)]], [])) (fun p => 0 ≤ p.1 ∧ p.1 < 65536 ∧ p.2.length ≤ 100000000 ∧ ∀ y ∈ p.2, okMk y)
  (fun p => (.ret (.v (.bool (rightB p.1.toNat p.2))), []))
theorem map_avMk : ∀ {l m : List Mk}, l.map avMk = m.map avMk → l = m
  | [], [], _ => rfl
  | [], _ :: _, h => by simp at h
  | _ :: _, [], h => by simp at h
  | a :: l, b :: m, h => by
    simp only [List.map_cons, List.cons.injEq] at h
    rw [inj_avMk h.1, map_avMk h.2]
theorem zV_rest : vc (zV.drop 16) = [] := by simp [zV, vc]
open Classical in
theorem rightAt (s : Int) (l : List Mk) : spRight [.agg [.v (.int .u16 s), .fsl 17 (l.map avMk)]] [] = if 0 ≤ s ∧ s < 65536 ∧ l.length ≤ 100000000 ∧ (∀ y ∈ l, okMk y) then some (.ret (.v (.bool (rightB s.toNat l))), []) else none :=
  spc_at (f := fun p : Int × List Mk => ([.agg [.v (.int .u16 p.1), .fsl 17 (p.2.map avMk)]], [])) (fun x y h => by
    simp only [Prod.mk.injEq, List.cons.injEq, and_true, AV.agg.injEq, AV.v.injEq, Value.int.injEq, true_and, AV.fsl.injEq] at h
    exact Prod.ext h.1 (map_avMk h.2)) (s, l)
open Classical in
theorem ordAtMk' (a b : Int) (v w : List Nat) : spOrdMk [.agg (mc a v), .agg (mc b w)] [] = if okMk ⟨a, v⟩ ∧ okMk ⟨b, w⟩ then some (.ret (.v (.int .i64 (cmpI a b))), []) else none := ordAtMk ⟨a, v⟩ ⟨b, w⟩

set_option maxHeartbeats 8000000 in
theorem right_ok : CallOk Try.prog 41 spRight := by
  refine ok_41 (Env.put_ok [] (Env.put_ok [] (Env.put_ok [] (Env.none_ok _) has_ok) fits_ok) ordMk_ok) spRight (wb_spc ?_)
  rintro ⟨s, l⟩ ⟨hs0, hs1, hll, hok⟩
  simp only at hs0 hs1 hll hok ⊢
  obtain ⟨s, rfl⟩ := Int.eq_ofNat_of_zero_le hs0
  simp only [Int.toNat_natCast]
  have hsl : (s : Int) < 65536 := hs1
  unfold ac_41
  repeat' first
      | with_reducible refine wp_regionS (seg_eval (by simp -dsimp -implicitDefEqProofs; rfl) ?_)
      | with_reducible refine wp_region (seg_eval (by simp -dsimp -implicitDefEqProofs; rfl) ?_)
      | with_reducible refine wp_drawsS (seg_eval (by simp -dsimp -implicitDefEqProofs; rfl) ?_)
      | with_reducible refine wp_draws (seg_eval (by simp -dsimp -implicitDefEqProofs; rfl) ?_)
      | with_reducible refine seg_fin ?_
      | with_reducible refine seg_pan ?_
      | with_reducible refine seg_both ?_ ?_
      | with_reducible refine seg_case (fun x h => ?_) (fun h => ?_)
      | with_reducible refine seg_gate (fun h => ?_) (fun h => ?_)
      | with_reducible refine seg_need ?_ ?_
      | with_reducible refine wp_assoc ?_ | with_reducible refine wp_skipS ?_ | with_reducible refine wp_retS ?_ | with_reducible refine wp_exitS ?_ | with_reducible refine wp_dropS (wp_eqT (by simp -dsimp -implicitDefEqProofs; rfl) ?_) | with_reducible refine wp_sealS (by simp -dsimp -implicitDefEqProofs; rfl) ?_ | with_reducible refine wp_seal (by simp -dsimp -implicitDefEqProofs; rfl) ?_ | with_reducible refine wp_closeS (by simp -dsimp -implicitDefEqProofs; rfl) ?_ | with_reducible refine wp_close (by simp -dsimp -implicitDefEqProofs; rfl) ?_ | with_reducible refine wp_conc_out ?_ | with_reducible refine wp_open_out ?_ | with_reducible refine wp_pack_out ?_ | with_reducible refine wp_blockS ?_ | with_reducible refine wp_skip' ?_ | with_reducible refine wp_ret' ?_ | with_reducible refine wp_exit' ?_ | with_reducible refine wp_drop (wp_eqT (by simp -dsimp -implicitDefEqProofs; rfl) ?_) | with_reducible refine wp_block' ?_
      | with_reducible refine wp_condVS (by simp -dsimp -implicitDefEqProofs; rfl) ?_
      | with_reducible refine wp_condV (by simp -dsimp -implicitDefEqProofs; rfl) ?_
      | with_reducible refine cond_t ?_ | with_reducible refine cond_f ?_ | with_reducible refine cond_v (fun h => ?_) (fun h => ?_)
      | with_reducible refine post_then ?_ | with_reducible refine post_thenE ?_ | with_reducible refine post_thenP ?_ | with_reducible refine post_blkP ?_ | with_reducible refine post_thenR ?_ | with_reducible refine post_blkN ?_ | with_reducible refine post_blkE ?_ | with_reducible refine post_blkF rfl ?_ | with_reducible refine post_blkR ?_
      | with_reducible refine seg_eval (by simp -dsimp -implicitDefEqProofs; rfl) ?_
  refine wp_loop' (fun j ts mm => ∃ i : Nat, i + j = l.length ∧ (∀ k m, k < i → l[k]? = some m → hasS s m.who.toNat = true ∧ FitsV s m.past ∧ (0 < k → ∀ p, l[k - 1]? = some p → p.who < m.who)) ∧
    ts = [(1, .fptr (.agg [.v (.int .u16 (s : Int)), .fsl 17 (l.map avMk)]) 0), (6, .fsl 17 (l.map avMk)), (7, .v (.int .i64 l.length)), (8, .v (.int .i64 i))] ∧ mm = []) l.length ?_ ?_
  · exact ⟨[], [], by simp, by simp, 0, by omega, fun k n hk => by omega, by simp, by simp⟩
  · rintro j ts mm ⟨i, hi, hlo, rfl, rfl⟩
    by_cases hlt : i < l.length
    · obtain ⟨x, hx⟩ : ∃ x, l[i]? = some x := ⟨_, List.getElem?_eq_getElem (by omega)⟩
      have hxo := hok x (List.mem_of_getElem? hx)
      have hd : decide ((i : Int) < (l.length : Int)) = true := by rw [decide_eq_true_eq]; omega
      have hd2 : decide (i < l.length) = true := by simp [hlt]
      have h64 : IntKind.wrap .i64 ((i : Int) + 1) = ((i + 1 : Nat) : Int) := by rw [IntWalk.i64_in _ (by omega)]; rfl
      have more (h1 : hasS s x.who.toNat = true) (h2 : FitsV s x.past) (h3 : 0 < i → ∀ p, l[i - 1]? = some p → p.who < x.who) : ∀ k m, k < i + 1 → l[k]? = some m → hasS s m.who.toNat = true ∧ FitsV s m.past ∧ (0 < k → ∀ p, l[k - 1]? = some p → p.who < m.who) := by
        intro k m hk hm
        by_cases hki : k = i
        · subst hki; rw [hx] at hm; cases hm; exact ⟨h1, h2, h3⟩
        · exact hlo k m (by omega) hm
      obtain ⟨w, v⟩ := x
      obtain ⟨hw0, hw1, hv⟩ := id hxo
      simp only at hw0 hw1 hv more
      have hvl := hv.1
      cases hh : hasS s w.toNat
      · have hno : rightB s l = false := right_no fun hF => by have := (hF.2 i _ hx).1; simp only at this; rw [hh] at this; cases this
        rw [hno]
        repeat' first
            | with_reducible refine wp_regionS (seg_eval (by simp -dsimp -implicitDefEqProofs [zV_rest, avMk, cMk, hd, hd2, h64, hx, hw0, hw1, hvl, hsl, hh, spHas]; rfl) ?_)
            | with_reducible refine wp_region (seg_eval (by simp -dsimp -implicitDefEqProofs [zV_rest, avMk, cMk, hd, hd2, h64, hx, hw0, hw1, hvl, hsl, hh, spHas]; rfl) ?_)
            | with_reducible refine wp_drawsS (seg_eval (by simp -dsimp -implicitDefEqProofs [zV_rest, avMk, cMk, hd, hd2, h64, hx, hw0, hw1, hvl, hsl, hh, spHas]; rfl) ?_)
            | with_reducible refine wp_draws (seg_eval (by simp -dsimp -implicitDefEqProofs [zV_rest, avMk, cMk, hd, hd2, h64, hx, hw0, hw1, hvl, hsl, hh, spHas]; rfl) ?_)
            | with_reducible refine seg_fin ?_
            | with_reducible refine seg_pan ?_
            | with_reducible refine seg_both ?_ ?_
            | with_reducible refine seg_case (fun x h => ?_) (fun h => ?_)
            | with_reducible refine seg_gate (fun h => ?_) (fun h => ?_)
            | with_reducible refine seg_need ?_ ?_
            | with_reducible refine wp_assoc ?_ | with_reducible refine wp_skipS ?_ | with_reducible refine wp_retS ?_ | with_reducible refine wp_exitS ?_ | with_reducible refine wp_dropS (wp_eqT (by simp -dsimp -implicitDefEqProofs [zV_rest, avMk, cMk, hd, hd2, h64, hx, hw0, hw1, hvl, hsl, hh, spHas]; rfl) ?_) | with_reducible refine wp_sealS (by simp -dsimp -implicitDefEqProofs [zV_rest, avMk, cMk, hd, hd2, h64, hx, hw0, hw1, hvl, hsl, hh, spHas]; rfl) ?_ | with_reducible refine wp_seal (by simp -dsimp -implicitDefEqProofs [zV_rest, avMk, cMk, hd, hd2, h64, hx, hw0, hw1, hvl, hsl, hh, spHas]; rfl) ?_ | with_reducible refine wp_closeS (by simp -dsimp -implicitDefEqProofs [zV_rest, avMk, cMk, hd, hd2, h64, hx, hw0, hw1, hvl, hsl, hh, spHas]; rfl) ?_ | with_reducible refine wp_close (by simp -dsimp -implicitDefEqProofs [zV_rest, avMk, cMk, hd, hd2, h64, hx, hw0, hw1, hvl, hsl, hh, spHas]; rfl) ?_ | with_reducible refine wp_conc_out ?_ | with_reducible refine wp_open_out ?_ | with_reducible refine wp_pack_out ?_ | with_reducible refine wp_blockS ?_ | with_reducible refine wp_skip' ?_ | with_reducible refine wp_ret' ?_ | with_reducible refine wp_exit' ?_ | with_reducible refine wp_drop (wp_eqT (by simp -dsimp -implicitDefEqProofs [zV_rest, avMk, cMk, hd, hd2, h64, hx, hw0, hw1, hvl, hsl, hh, spHas]; rfl) ?_) | with_reducible refine wp_block' ?_
            | with_reducible refine wp_condVS (by simp -dsimp -implicitDefEqProofs [zV_rest, avMk, cMk, hd, hd2, h64, hx, hw0, hw1, hvl, hsl, hh, spHas]; rfl) ?_
            | with_reducible refine wp_condV (by simp -dsimp -implicitDefEqProofs [zV_rest, avMk, cMk, hd, hd2, h64, hx, hw0, hw1, hvl, hsl, hh, spHas]; rfl) ?_
            | with_reducible refine cond_t ?_ | with_reducible refine cond_f ?_ | with_reducible refine cond_v (fun h => ?_) (fun h => ?_)
            | with_reducible refine post_then ?_ | with_reducible refine post_thenE ?_ | with_reducible refine post_thenP ?_ | with_reducible refine post_blkP ?_ | with_reducible refine post_thenR ?_ | with_reducible refine post_blkN ?_ | with_reducible refine post_blkE ?_ | with_reducible refine post_blkF rfl ?_ | with_reducible refine post_blkR ?_
            | with_reducible refine seg_eval (by simp -dsimp -implicitDefEqProofs [zV_rest, avMk, cMk, hd, hd2, h64, hx, hw0, hw1, hvl, hsl, hh, spHas]; rfl) ?_
        all_goals first
          | omega
          | exact post_fin rfl rfl ⟨[], [], rfl, rfl, rfl, rfl⟩
          | trace_state
      · cases hf : fitsB s v
        · have hno : rightB s l = false := right_no fun hF => by have := fits_yes (hF.2 i _ hx).2.1; simp only at this; rw [hf] at this; cases this
          rw [hno]
          repeat' first
              | with_reducible refine wp_regionS (seg_eval (by simp -dsimp -implicitDefEqProofs [zV_rest, avMk, cMk, hd, hd2, h64, hx, hw0, hw1, hv, hvl, hsl, hh, hf, spHas, fitsAt]; rfl) ?_)
              | with_reducible refine wp_region (seg_eval (by simp -dsimp -implicitDefEqProofs [zV_rest, avMk, cMk, hd, hd2, h64, hx, hw0, hw1, hv, hvl, hsl, hh, hf, spHas, fitsAt]; rfl) ?_)
              | with_reducible refine wp_drawsS (seg_eval (by simp -dsimp -implicitDefEqProofs [zV_rest, avMk, cMk, hd, hd2, h64, hx, hw0, hw1, hv, hvl, hsl, hh, hf, spHas, fitsAt]; rfl) ?_)
              | with_reducible refine wp_draws (seg_eval (by simp -dsimp -implicitDefEqProofs [zV_rest, avMk, cMk, hd, hd2, h64, hx, hw0, hw1, hv, hvl, hsl, hh, hf, spHas, fitsAt]; rfl) ?_)
              | with_reducible refine seg_fin ?_
              | with_reducible refine seg_pan ?_
              | with_reducible refine seg_both ?_ ?_
              | with_reducible refine seg_case (fun x h => ?_) (fun h => ?_)
              | with_reducible refine seg_gate (fun h => ?_) (fun h => ?_)
              | with_reducible refine seg_need ?_ ?_
              | with_reducible refine wp_assoc ?_ | with_reducible refine wp_skipS ?_ | with_reducible refine wp_retS ?_ | with_reducible refine wp_exitS ?_ | with_reducible refine wp_dropS (wp_eqT (by simp -dsimp -implicitDefEqProofs [zV_rest, avMk, cMk, hd, hd2, h64, hx, hw0, hw1, hv, hvl, hsl, hh, hf, spHas, fitsAt]; rfl) ?_) | with_reducible refine wp_sealS (by simp -dsimp -implicitDefEqProofs [zV_rest, avMk, cMk, hd, hd2, h64, hx, hw0, hw1, hv, hvl, hsl, hh, hf, spHas, fitsAt]; rfl) ?_ | with_reducible refine wp_seal (by simp -dsimp -implicitDefEqProofs [zV_rest, avMk, cMk, hd, hd2, h64, hx, hw0, hw1, hv, hvl, hsl, hh, hf, spHas, fitsAt]; rfl) ?_ | with_reducible refine wp_closeS (by simp -dsimp -implicitDefEqProofs [zV_rest, avMk, cMk, hd, hd2, h64, hx, hw0, hw1, hv, hvl, hsl, hh, hf, spHas, fitsAt]; rfl) ?_ | with_reducible refine wp_close (by simp -dsimp -implicitDefEqProofs [zV_rest, avMk, cMk, hd, hd2, h64, hx, hw0, hw1, hv, hvl, hsl, hh, hf, spHas, fitsAt]; rfl) ?_ | with_reducible refine wp_conc_out ?_ | with_reducible refine wp_open_out ?_ | with_reducible refine wp_pack_out ?_ | with_reducible refine wp_blockS ?_ | with_reducible refine wp_skip' ?_ | with_reducible refine wp_ret' ?_ | with_reducible refine wp_exit' ?_ | with_reducible refine wp_drop (wp_eqT (by simp -dsimp -implicitDefEqProofs [zV_rest, avMk, cMk, hd, hd2, h64, hx, hw0, hw1, hv, hvl, hsl, hh, hf, spHas, fitsAt]; rfl) ?_) | with_reducible refine wp_block' ?_
              | with_reducible refine wp_condVS (by simp -dsimp -implicitDefEqProofs [zV_rest, avMk, cMk, hd, hd2, h64, hx, hw0, hw1, hv, hvl, hsl, hh, hf, spHas, fitsAt]; rfl) ?_
              | with_reducible refine wp_condV (by simp -dsimp -implicitDefEqProofs [zV_rest, avMk, cMk, hd, hd2, h64, hx, hw0, hw1, hv, hvl, hsl, hh, hf, spHas, fitsAt]; rfl) ?_
              | with_reducible refine cond_t ?_ | with_reducible refine cond_f ?_ | with_reducible refine cond_v (fun h => ?_) (fun h => ?_)
              | with_reducible refine post_then ?_ | with_reducible refine post_thenE ?_ | with_reducible refine post_thenP ?_ | with_reducible refine post_blkP ?_ | with_reducible refine post_thenR ?_ | with_reducible refine post_blkN ?_ | with_reducible refine post_blkE ?_ | with_reducible refine post_blkF rfl ?_ | with_reducible refine post_blkR ?_
              | with_reducible refine seg_eval (by simp -dsimp -implicitDefEqProofs [zV_rest, avMk, cMk, hd, hd2, h64, hx, hw0, hw1, hv, hvl, hsl, hh, hf, spHas, fitsAt]; rfl) ?_
          all_goals first
            | omega
            | exact post_fin rfl rfl ⟨[], [], rfl, rfl, rfl, rfl⟩
            | trace_state
        · rcases Nat.eq_zero_or_pos i with h0 | h0
          · subst h0
            repeat' first
                | with_reducible refine wp_regionS (seg_eval (by simp -dsimp -implicitDefEqProofs [zV_rest, avMk, cMk, hd, hd2, h64, hx, hw0, hw1, hv, hvl, hsl, hh, hf, spHas, fitsAt]; rfl) ?_)
                | with_reducible refine wp_region (seg_eval (by simp -dsimp -implicitDefEqProofs [zV_rest, avMk, cMk, hd, hd2, h64, hx, hw0, hw1, hv, hvl, hsl, hh, hf, spHas, fitsAt]; rfl) ?_)
                | with_reducible refine wp_drawsS (seg_eval (by simp -dsimp -implicitDefEqProofs [zV_rest, avMk, cMk, hd, hd2, h64, hx, hw0, hw1, hv, hvl, hsl, hh, hf, spHas, fitsAt]; rfl) ?_)
                | with_reducible refine wp_draws (seg_eval (by simp -dsimp -implicitDefEqProofs [zV_rest, avMk, cMk, hd, hd2, h64, hx, hw0, hw1, hv, hvl, hsl, hh, hf, spHas, fitsAt]; rfl) ?_)
                | with_reducible refine seg_fin ?_
                | with_reducible refine seg_pan ?_
                | with_reducible refine seg_both ?_ ?_
                | with_reducible refine seg_case (fun x h => ?_) (fun h => ?_)
                | with_reducible refine seg_gate (fun h => ?_) (fun h => ?_)
                | with_reducible refine seg_need ?_ ?_
                | with_reducible refine wp_assoc ?_ | with_reducible refine wp_skipS ?_ | with_reducible refine wp_retS ?_ | with_reducible refine wp_exitS ?_ | with_reducible refine wp_dropS (wp_eqT (by simp -dsimp -implicitDefEqProofs [zV_rest, avMk, cMk, hd, hd2, h64, hx, hw0, hw1, hv, hvl, hsl, hh, hf, spHas, fitsAt]; rfl) ?_) | with_reducible refine wp_sealS (by simp -dsimp -implicitDefEqProofs [zV_rest, avMk, cMk, hd, hd2, h64, hx, hw0, hw1, hv, hvl, hsl, hh, hf, spHas, fitsAt]; rfl) ?_ | with_reducible refine wp_seal (by simp -dsimp -implicitDefEqProofs [zV_rest, avMk, cMk, hd, hd2, h64, hx, hw0, hw1, hv, hvl, hsl, hh, hf, spHas, fitsAt]; rfl) ?_ | with_reducible refine wp_closeS (by simp -dsimp -implicitDefEqProofs [zV_rest, avMk, cMk, hd, hd2, h64, hx, hw0, hw1, hv, hvl, hsl, hh, hf, spHas, fitsAt]; rfl) ?_ | with_reducible refine wp_close (by simp -dsimp -implicitDefEqProofs [zV_rest, avMk, cMk, hd, hd2, h64, hx, hw0, hw1, hv, hvl, hsl, hh, hf, spHas, fitsAt]; rfl) ?_ | with_reducible refine wp_conc_out ?_ | with_reducible refine wp_open_out ?_ | with_reducible refine wp_pack_out ?_ | with_reducible refine wp_blockS ?_ | with_reducible refine wp_skip' ?_ | with_reducible refine wp_ret' ?_ | with_reducible refine wp_exit' ?_ | with_reducible refine wp_drop (wp_eqT (by simp -dsimp -implicitDefEqProofs [zV_rest, avMk, cMk, hd, hd2, h64, hx, hw0, hw1, hv, hvl, hsl, hh, hf, spHas, fitsAt]; rfl) ?_) | with_reducible refine wp_block' ?_
                | with_reducible refine wp_condVS (by simp -dsimp -implicitDefEqProofs [zV_rest, avMk, cMk, hd, hd2, h64, hx, hw0, hw1, hv, hvl, hsl, hh, hf, spHas, fitsAt]; rfl) ?_
                | with_reducible refine wp_condV (by simp -dsimp -implicitDefEqProofs [zV_rest, avMk, cMk, hd, hd2, h64, hx, hw0, hw1, hv, hvl, hsl, hh, hf, spHas, fitsAt]; rfl) ?_
                | with_reducible refine cond_t ?_ | with_reducible refine cond_f ?_ | with_reducible refine cond_v (fun h => ?_) (fun h => ?_)
                | with_reducible refine post_then ?_ | with_reducible refine post_thenE ?_ | with_reducible refine post_thenP ?_ | with_reducible refine post_blkP ?_ | with_reducible refine post_thenR ?_ | with_reducible refine post_blkN ?_ | with_reducible refine post_blkE ?_ | with_reducible refine post_blkF rfl ?_ | with_reducible refine post_blkR ?_
                | with_reducible refine seg_eval (by simp -dsimp -implicitDefEqProofs [zV_rest, avMk, cMk, hd, hd2, h64, hx, hw0, hw1, hv, hvl, hsl, hh, hf, spHas, fitsAt]; rfl) ?_
            all_goals first
              | omega
              | exact ⟨j - 1, by omega, [], [], by simp, by simp, 1, by omega, more hh (fits_iff.1 hf) (fun h => by omega), by simp [avMk]; decide, by simp⟩
              | trace_state
          · obtain ⟨i', hi'⟩ : ∃ i', i = i' + 1 := ⟨i - 1, by omega⟩
            obtain ⟨y, hy⟩ : ∃ y, l[i']? = some y := ⟨_, List.getElem?_eq_getElem (by omega)⟩
            have hyo := hok y (List.mem_of_getElem? hy)
            obtain ⟨w2, v2⟩ := y
            obtain ⟨_, _, hv2⟩ := id hyo
            simp only at hv2
            have hvl2 := hv2.1
            have c0 : decide ((0 : Int) < (i : Int)) = true := by rw [decide_eq_true_eq]; omega
            have c0n : decide (0 < i) = true := by rw [decide_eq_true_eq]; omega
            have h65 : IntKind.wrap .i64 ((i : Int) - 1) = (i' : Int) := by rw [IntWalk.i64_in _ (by omega)]; omega
            by_cases hlt2 : w2 < w
            · have hc : decide ((0 : Int) ≤ cmpI w2 w) = false := by rw [decide_eq_false_iff_not]; unfold cmpI; rw [if_pos hlt2]; decide
              repeat' first
                  | with_reducible refine wp_regionS (seg_eval (by simp -dsimp -implicitDefEqProofs [zV_rest, avMk, cMk, hd, hd2, h64, h65, hx, hy, hw0, hw1, hv, hvl, hvl2, hsl, hh, hf, c0, c0n, hc, hxo, hyo, spHas, fitsAt, ordAtMk']; rfl) ?_)
                  | with_reducible refine wp_region (seg_eval (by simp -dsimp -implicitDefEqProofs [zV_rest, avMk, cMk, hd, hd2, h64, h65, hx, hy, hw0, hw1, hv, hvl, hvl2, hsl, hh, hf, c0, c0n, hc, hxo, hyo, spHas, fitsAt, ordAtMk']; rfl) ?_)
                  | with_reducible refine wp_drawsS (seg_eval (by simp -dsimp -implicitDefEqProofs [zV_rest, avMk, cMk, hd, hd2, h64, h65, hx, hy, hw0, hw1, hv, hvl, hvl2, hsl, hh, hf, c0, c0n, hc, hxo, hyo, spHas, fitsAt, ordAtMk']; rfl) ?_)
                  | with_reducible refine wp_draws (seg_eval (by simp -dsimp -implicitDefEqProofs [zV_rest, avMk, cMk, hd, hd2, h64, h65, hx, hy, hw0, hw1, hv, hvl, hvl2, hsl, hh, hf, c0, c0n, hc, hxo, hyo, spHas, fitsAt, ordAtMk']; rfl) ?_)
                  | with_reducible refine seg_fin ?_
                  | with_reducible refine seg_pan ?_
                  | with_reducible refine seg_both ?_ ?_
                  | with_reducible refine seg_case (fun x h => ?_) (fun h => ?_)
                  | with_reducible refine seg_gate (fun h => ?_) (fun h => ?_)
                  | with_reducible refine seg_need ?_ ?_
                  | with_reducible refine wp_assoc ?_ | with_reducible refine wp_skipS ?_ | with_reducible refine wp_retS ?_ | with_reducible refine wp_exitS ?_ | with_reducible refine wp_dropS (wp_eqT (by simp -dsimp -implicitDefEqProofs [zV_rest, avMk, cMk, hd, hd2, h64, h65, hx, hy, hw0, hw1, hv, hvl, hvl2, hsl, hh, hf, c0, c0n, hc, hxo, hyo, spHas, fitsAt, ordAtMk']; rfl) ?_) | with_reducible refine wp_sealS (by simp -dsimp -implicitDefEqProofs [zV_rest, avMk, cMk, hd, hd2, h64, h65, hx, hy, hw0, hw1, hv, hvl, hvl2, hsl, hh, hf, c0, c0n, hc, hxo, hyo, spHas, fitsAt, ordAtMk']; rfl) ?_ | with_reducible refine wp_seal (by simp -dsimp -implicitDefEqProofs [zV_rest, avMk, cMk, hd, hd2, h64, h65, hx, hy, hw0, hw1, hv, hvl, hvl2, hsl, hh, hf, c0, c0n, hc, hxo, hyo, spHas, fitsAt, ordAtMk']; rfl) ?_ | with_reducible refine wp_closeS (by simp -dsimp -implicitDefEqProofs [zV_rest, avMk, cMk, hd, hd2, h64, h65, hx, hy, hw0, hw1, hv, hvl, hvl2, hsl, hh, hf, c0, c0n, hc, hxo, hyo, spHas, fitsAt, ordAtMk']; rfl) ?_ | with_reducible refine wp_close (by simp -dsimp -implicitDefEqProofs [zV_rest, avMk, cMk, hd, hd2, h64, h65, hx, hy, hw0, hw1, hv, hvl, hvl2, hsl, hh, hf, c0, c0n, hc, hxo, hyo, spHas, fitsAt, ordAtMk']; rfl) ?_ | with_reducible refine wp_conc_out ?_ | with_reducible refine wp_open_out ?_ | with_reducible refine wp_pack_out ?_ | with_reducible refine wp_blockS ?_ | with_reducible refine wp_skip' ?_ | with_reducible refine wp_ret' ?_ | with_reducible refine wp_exit' ?_ | with_reducible refine wp_drop (wp_eqT (by simp -dsimp -implicitDefEqProofs [zV_rest, avMk, cMk, hd, hd2, h64, h65, hx, hy, hw0, hw1, hv, hvl, hvl2, hsl, hh, hf, c0, c0n, hc, hxo, hyo, spHas, fitsAt, ordAtMk']; rfl) ?_) | with_reducible refine wp_block' ?_
                  | with_reducible refine wp_condVS (by simp -dsimp -implicitDefEqProofs [zV_rest, avMk, cMk, hd, hd2, h64, h65, hx, hy, hw0, hw1, hv, hvl, hvl2, hsl, hh, hf, c0, c0n, hc, hxo, hyo, spHas, fitsAt, ordAtMk']; rfl) ?_
                  | with_reducible refine wp_condV (by simp -dsimp -implicitDefEqProofs [zV_rest, avMk, cMk, hd, hd2, h64, h65, hx, hy, hw0, hw1, hv, hvl, hvl2, hsl, hh, hf, c0, c0n, hc, hxo, hyo, spHas, fitsAt, ordAtMk']; rfl) ?_
                  | with_reducible refine cond_t ?_ | with_reducible refine cond_f ?_ | with_reducible refine cond_v (fun h => ?_) (fun h => ?_)
                  | with_reducible refine post_then ?_ | with_reducible refine post_thenE ?_ | with_reducible refine post_thenP ?_ | with_reducible refine post_blkP ?_ | with_reducible refine post_thenR ?_ | with_reducible refine post_blkN ?_ | with_reducible refine post_blkE ?_ | with_reducible refine post_blkF rfl ?_ | with_reducible refine post_blkR ?_
                  | with_reducible refine seg_eval (by simp -dsimp -implicitDefEqProofs [zV_rest, avMk, cMk, hd, hd2, h64, h65, hx, hy, hw0, hw1, hv, hvl, hvl2, hsl, hh, hf, c0, c0n, hc, hxo, hyo, spHas, fitsAt, ordAtMk']; rfl) ?_
              all_goals first
                | omega
                | exact ⟨hyo, hxo⟩
                | exact ⟨j - 1, by omega, [], [], by simp, by simp, i + 1, by omega, more hh (fits_iff.1 hf) (fun _ p hp => by rw [show i - 1 = i' by omega] at hp; rw [hy] at hp; cases hp; exact hlt2), by simp [avMk], by simp⟩
                | trace_state
            · have hc : decide ((0 : Int) ≤ cmpI w2 w) = true := by rw [decide_eq_true_eq]; unfold cmpI; rw [if_neg hlt2]; split <;> decide
              have hno : rightB s l = false := right_no fun hF => by
                have := (hF.2 i _ hx).2.2 (by omega) _ (by rw [show i - 1 = i' by omega]; exact hy)
                simp only at this; omega
              rw [hno]
              repeat' first
                  | with_reducible refine wp_regionS (seg_eval (by simp -dsimp -implicitDefEqProofs [zV_rest, avMk, cMk, hd, hd2, h64, h65, hx, hy, hw0, hw1, hv, hvl, hvl2, hsl, hh, hf, c0, c0n, hc, hxo, hyo, spHas, fitsAt, ordAtMk']; rfl) ?_)
                  | with_reducible refine wp_region (seg_eval (by simp -dsimp -implicitDefEqProofs [zV_rest, avMk, cMk, hd, hd2, h64, h65, hx, hy, hw0, hw1, hv, hvl, hvl2, hsl, hh, hf, c0, c0n, hc, hxo, hyo, spHas, fitsAt, ordAtMk']; rfl) ?_)
                  | with_reducible refine wp_drawsS (seg_eval (by simp -dsimp -implicitDefEqProofs [zV_rest, avMk, cMk, hd, hd2, h64, h65, hx, hy, hw0, hw1, hv, hvl, hvl2, hsl, hh, hf, c0, c0n, hc, hxo, hyo, spHas, fitsAt, ordAtMk']; rfl) ?_)
                  | with_reducible refine wp_draws (seg_eval (by simp -dsimp -implicitDefEqProofs [zV_rest, avMk, cMk, hd, hd2, h64, h65, hx, hy, hw0, hw1, hv, hvl, hvl2, hsl, hh, hf, c0, c0n, hc, hxo, hyo, spHas, fitsAt, ordAtMk']; rfl) ?_)
                  | with_reducible refine seg_fin ?_
                  | with_reducible refine seg_pan ?_
                  | with_reducible refine seg_both ?_ ?_
                  | with_reducible refine seg_case (fun x h => ?_) (fun h => ?_)
                  | with_reducible refine seg_gate (fun h => ?_) (fun h => ?_)
                  | with_reducible refine seg_need ?_ ?_
                  | with_reducible refine wp_assoc ?_ | with_reducible refine wp_skipS ?_ | with_reducible refine wp_retS ?_ | with_reducible refine wp_exitS ?_ | with_reducible refine wp_dropS (wp_eqT (by simp -dsimp -implicitDefEqProofs [zV_rest, avMk, cMk, hd, hd2, h64, h65, hx, hy, hw0, hw1, hv, hvl, hvl2, hsl, hh, hf, c0, c0n, hc, hxo, hyo, spHas, fitsAt, ordAtMk']; rfl) ?_) | with_reducible refine wp_sealS (by simp -dsimp -implicitDefEqProofs [zV_rest, avMk, cMk, hd, hd2, h64, h65, hx, hy, hw0, hw1, hv, hvl, hvl2, hsl, hh, hf, c0, c0n, hc, hxo, hyo, spHas, fitsAt, ordAtMk']; rfl) ?_ | with_reducible refine wp_seal (by simp -dsimp -implicitDefEqProofs [zV_rest, avMk, cMk, hd, hd2, h64, h65, hx, hy, hw0, hw1, hv, hvl, hvl2, hsl, hh, hf, c0, c0n, hc, hxo, hyo, spHas, fitsAt, ordAtMk']; rfl) ?_ | with_reducible refine wp_closeS (by simp -dsimp -implicitDefEqProofs [zV_rest, avMk, cMk, hd, hd2, h64, h65, hx, hy, hw0, hw1, hv, hvl, hvl2, hsl, hh, hf, c0, c0n, hc, hxo, hyo, spHas, fitsAt, ordAtMk']; rfl) ?_ | with_reducible refine wp_close (by simp -dsimp -implicitDefEqProofs [zV_rest, avMk, cMk, hd, hd2, h64, h65, hx, hy, hw0, hw1, hv, hvl, hvl2, hsl, hh, hf, c0, c0n, hc, hxo, hyo, spHas, fitsAt, ordAtMk']; rfl) ?_ | with_reducible refine wp_conc_out ?_ | with_reducible refine wp_open_out ?_ | with_reducible refine wp_pack_out ?_ | with_reducible refine wp_blockS ?_ | with_reducible refine wp_skip' ?_ | with_reducible refine wp_ret' ?_ | with_reducible refine wp_exit' ?_ | with_reducible refine wp_drop (wp_eqT (by simp -dsimp -implicitDefEqProofs [zV_rest, avMk, cMk, hd, hd2, h64, h65, hx, hy, hw0, hw1, hv, hvl, hvl2, hsl, hh, hf, c0, c0n, hc, hxo, hyo, spHas, fitsAt, ordAtMk']; rfl) ?_) | with_reducible refine wp_block' ?_
                  | with_reducible refine wp_condVS (by simp -dsimp -implicitDefEqProofs [zV_rest, avMk, cMk, hd, hd2, h64, h65, hx, hy, hw0, hw1, hv, hvl, hvl2, hsl, hh, hf, c0, c0n, hc, hxo, hyo, spHas, fitsAt, ordAtMk']; rfl) ?_
                  | with_reducible refine wp_condV (by simp -dsimp -implicitDefEqProofs [zV_rest, avMk, cMk, hd, hd2, h64, h65, hx, hy, hw0, hw1, hv, hvl, hvl2, hsl, hh, hf, c0, c0n, hc, hxo, hyo, spHas, fitsAt, ordAtMk']; rfl) ?_
                  | with_reducible refine cond_t ?_ | with_reducible refine cond_f ?_ | with_reducible refine cond_v (fun h => ?_) (fun h => ?_)
                  | with_reducible refine post_then ?_ | with_reducible refine post_thenE ?_ | with_reducible refine post_thenP ?_ | with_reducible refine post_blkP ?_ | with_reducible refine post_thenR ?_ | with_reducible refine post_blkN ?_ | with_reducible refine post_blkE ?_ | with_reducible refine post_blkF rfl ?_ | with_reducible refine post_blkR ?_
                  | with_reducible refine seg_eval (by simp -dsimp -implicitDefEqProofs [zV_rest, avMk, cMk, hd, hd2, h64, h65, hx, hy, hw0, hw1, hv, hvl, hvl2, hsl, hh, hf, c0, c0n, hc, hxo, hyo, spHas, fitsAt, ordAtMk']; rfl) ?_
              all_goals first
                | omega
                | exact ⟨hyo, hxo⟩
                | exact post_fin rfl rfl ⟨[], [], rfl, rfl, rfl, rfl⟩
                | trace_state
    · have hd : decide ((i : Int) < (l.length : Int)) = false := by rw [decide_eq_false_iff_not]; omega
      have hd2 : decide (i < l.length) = false := by simp [hlt]
      have hall : MarksF s l := fun k n hn => hlo k n (by have := (List.getElem?_eq_some_iff.1 hn).1; omega) hn
      by_cases hz : s = 0
      · have hno : rightB s l = false := right_no fun hF => hF.1 hz
        rw [hno]
        subst hz
        repeat' first
            | with_reducible refine wp_regionS (seg_eval (by simp -dsimp -implicitDefEqProofs [hd, hd2]; rfl) ?_)
            | with_reducible refine wp_region (seg_eval (by simp -dsimp -implicitDefEqProofs [hd, hd2]; rfl) ?_)
            | with_reducible refine wp_drawsS (seg_eval (by simp -dsimp -implicitDefEqProofs [hd, hd2]; rfl) ?_)
            | with_reducible refine wp_draws (seg_eval (by simp -dsimp -implicitDefEqProofs [hd, hd2]; rfl) ?_)
            | with_reducible refine seg_fin ?_
            | with_reducible refine seg_pan ?_
            | with_reducible refine seg_both ?_ ?_
            | with_reducible refine seg_case (fun x h => ?_) (fun h => ?_)
            | with_reducible refine seg_gate (fun h => ?_) (fun h => ?_)
            | with_reducible refine seg_need ?_ ?_
            | with_reducible refine wp_assoc ?_ | with_reducible refine wp_skipS ?_ | with_reducible refine wp_retS ?_ | with_reducible refine wp_exitS ?_ | with_reducible refine wp_dropS (wp_eqT (by simp -dsimp -implicitDefEqProofs [hd, hd2]; rfl) ?_) | with_reducible refine wp_sealS (by simp -dsimp -implicitDefEqProofs [hd, hd2]; rfl) ?_ | with_reducible refine wp_seal (by simp -dsimp -implicitDefEqProofs [hd, hd2]; rfl) ?_ | with_reducible refine wp_closeS (by simp -dsimp -implicitDefEqProofs [hd, hd2]; rfl) ?_ | with_reducible refine wp_close (by simp -dsimp -implicitDefEqProofs [hd, hd2]; rfl) ?_ | with_reducible refine wp_conc_out ?_ | with_reducible refine wp_open_out ?_ | with_reducible refine wp_pack_out ?_ | with_reducible refine wp_blockS ?_ | with_reducible refine wp_skip' ?_ | with_reducible refine wp_ret' ?_ | with_reducible refine wp_exit' ?_ | with_reducible refine wp_drop (wp_eqT (by simp -dsimp -implicitDefEqProofs [hd, hd2]; rfl) ?_) | with_reducible refine wp_block' ?_
            | with_reducible refine wp_condVS (by simp -dsimp -implicitDefEqProofs [hd, hd2]; rfl) ?_
            | with_reducible refine wp_condV (by simp -dsimp -implicitDefEqProofs [hd, hd2]; rfl) ?_
            | with_reducible refine cond_t ?_ | with_reducible refine cond_f ?_ | with_reducible refine cond_v (fun h => ?_) (fun h => ?_)
            | with_reducible refine post_then ?_ | with_reducible refine post_thenE ?_ | with_reducible refine post_thenP ?_ | with_reducible refine post_blkP ?_ | with_reducible refine post_thenR ?_ | with_reducible refine post_blkN ?_ | with_reducible refine post_blkE ?_ | with_reducible refine post_blkF rfl ?_ | with_reducible refine post_blkR ?_
            | with_reducible refine seg_eval (by simp -dsimp -implicitDefEqProofs [hd, hd2]; rfl) ?_
        all_goals first
          | omega
          | exact post_fin rfl rfl ⟨[], [], rfl, rfl, rfl, rfl⟩
          | trace_state
      · have hyes : rightB s l = true := right_yes ⟨hz, hall⟩
        rw [hyes]
        repeat' first
            | with_reducible refine wp_regionS (seg_eval (by simp -dsimp -implicitDefEqProofs [hd, hd2]; rfl) ?_)
            | with_reducible refine wp_region (seg_eval (by simp -dsimp -implicitDefEqProofs [hd, hd2]; rfl) ?_)
            | with_reducible refine wp_drawsS (seg_eval (by simp -dsimp -implicitDefEqProofs [hd, hd2]; rfl) ?_)
            | with_reducible refine wp_draws (seg_eval (by simp -dsimp -implicitDefEqProofs [hd, hd2]; rfl) ?_)
            | with_reducible refine seg_fin ?_
            | with_reducible refine seg_pan ?_
            | with_reducible refine seg_both ?_ ?_
            | with_reducible refine seg_case (fun x h => ?_) (fun h => ?_)
            | with_reducible refine seg_gate (fun h => ?_) (fun h => ?_)
            | with_reducible refine seg_need ?_ ?_
            | with_reducible refine wp_assoc ?_ | with_reducible refine wp_skipS ?_ | with_reducible refine wp_retS ?_ | with_reducible refine wp_exitS ?_ | with_reducible refine wp_dropS (wp_eqT (by simp -dsimp -implicitDefEqProofs [hd, hd2]; rfl) ?_) | with_reducible refine wp_sealS (by simp -dsimp -implicitDefEqProofs [hd, hd2]; rfl) ?_ | with_reducible refine wp_seal (by simp -dsimp -implicitDefEqProofs [hd, hd2]; rfl) ?_ | with_reducible refine wp_closeS (by simp -dsimp -implicitDefEqProofs [hd, hd2]; rfl) ?_ | with_reducible refine wp_close (by simp -dsimp -implicitDefEqProofs [hd, hd2]; rfl) ?_ | with_reducible refine wp_conc_out ?_ | with_reducible refine wp_open_out ?_ | with_reducible refine wp_pack_out ?_ | with_reducible refine wp_blockS ?_ | with_reducible refine wp_skip' ?_ | with_reducible refine wp_ret' ?_ | with_reducible refine wp_exit' ?_ | with_reducible refine wp_drop (wp_eqT (by simp -dsimp -implicitDefEqProofs [hd, hd2]; rfl) ?_) | with_reducible refine wp_block' ?_
            | with_reducible refine wp_condVS (by simp -dsimp -implicitDefEqProofs [hd, hd2]; rfl) ?_
            | with_reducible refine wp_condV (by simp -dsimp -implicitDefEqProofs [hd, hd2]; rfl) ?_
            | with_reducible refine cond_t ?_ | with_reducible refine cond_f ?_ | with_reducible refine cond_v (fun h => ?_) (fun h => ?_)
            | with_reducible refine post_then ?_ | with_reducible refine post_thenE ?_ | with_reducible refine post_thenP ?_ | with_reducible refine post_blkP ?_ | with_reducible refine post_thenR ?_ | with_reducible refine post_blkN ?_ | with_reducible refine post_blkE ?_ | with_reducible refine post_blkF rfl ?_ | with_reducible refine post_blkR ?_
            | with_reducible refine seg_eval (by simp -dsimp -implicitDefEqProofs [hd, hd2]; rfl) ?_
        all_goals first
          | omega
          | exact post_bool rfl (by simp [hz])
          | trace_state
set_option maxHeartbeats 8000000 in
theorem rightR_ok : CallOk Try.prog 47 spRight := by
  refine ok_47 (Env.put_ok [] (Env.put_ok [] (Env.none_ok _) hasR_ok) fitsR_ok) spRight (wb_spc ?_)
  rintro ⟨s, l⟩ ⟨hs0, hs1, hll, hok⟩
  simp only at hs0 hs1 hll hok ⊢
  obtain ⟨s, rfl⟩ := Int.eq_ofNat_of_zero_le hs0
  simp only [Int.toNat_natCast]
  have hsl : (s : Int) < 65536 := hs1
  unfold ac_47
  repeat' first
      | with_reducible refine wp_regionS (seg_eval (by simp -dsimp -implicitDefEqProofs; rfl) ?_)
      | with_reducible refine wp_region (seg_eval (by simp -dsimp -implicitDefEqProofs; rfl) ?_)
      | with_reducible refine wp_drawsS (seg_eval (by simp -dsimp -implicitDefEqProofs; rfl) ?_)
      | with_reducible refine wp_draws (seg_eval (by simp -dsimp -implicitDefEqProofs; rfl) ?_)
      | with_reducible refine seg_fin ?_
      | with_reducible refine seg_pan ?_
      | with_reducible refine seg_both ?_ ?_
      | with_reducible refine seg_case (fun x h => ?_) (fun h => ?_)
      | with_reducible refine seg_gate (fun h => ?_) (fun h => ?_)
      | with_reducible refine seg_need ?_ ?_
      | with_reducible refine wp_assoc ?_ | with_reducible refine wp_skipS ?_ | with_reducible refine wp_retS ?_ | with_reducible refine wp_exitS ?_ | with_reducible refine wp_dropS (wp_eqT (by simp -dsimp -implicitDefEqProofs; rfl) ?_) | with_reducible refine wp_sealS (by simp -dsimp -implicitDefEqProofs; rfl) ?_ | with_reducible refine wp_seal (by simp -dsimp -implicitDefEqProofs; rfl) ?_ | with_reducible refine wp_closeS (by simp -dsimp -implicitDefEqProofs; rfl) ?_ | with_reducible refine wp_close (by simp -dsimp -implicitDefEqProofs; rfl) ?_ | with_reducible refine wp_conc_out ?_ | with_reducible refine wp_open_out ?_ | with_reducible refine wp_pack_out ?_ | with_reducible refine wp_blockS ?_ | with_reducible refine wp_skip' ?_ | with_reducible refine wp_ret' ?_ | with_reducible refine wp_exit' ?_ | with_reducible refine wp_drop (wp_eqT (by simp -dsimp -implicitDefEqProofs; rfl) ?_) | with_reducible refine wp_block' ?_
      | with_reducible refine wp_condVS (by simp -dsimp -implicitDefEqProofs; rfl) ?_
      | with_reducible refine wp_condV (by simp -dsimp -implicitDefEqProofs; rfl) ?_
      | with_reducible refine cond_t ?_ | with_reducible refine cond_f ?_ | with_reducible refine cond_v (fun h => ?_) (fun h => ?_)
      | with_reducible refine post_then ?_ | with_reducible refine post_thenE ?_ | with_reducible refine post_thenP ?_ | with_reducible refine post_blkP ?_ | with_reducible refine post_thenR ?_ | with_reducible refine post_blkN ?_ | with_reducible refine post_blkE ?_ | with_reducible refine post_blkF rfl ?_ | with_reducible refine post_blkR ?_
      | with_reducible refine seg_eval (by simp -dsimp -implicitDefEqProofs; rfl) ?_
  refine wp_loop' (fun j ts mm => ∃ i : Nat, i + j = l.length ∧ (∀ k m, k < i → l[k]? = some m → hasS s m.who.toNat = true ∧ FitsV s m.past ∧ (0 < k → ∀ p, l[k - 1]? = some p → p.who < m.who)) ∧
    ts = [(1, .fptr (.agg [.v (.int .u16 (s : Int)), .fsl 17 (l.map avMk)]) 0), (3, .v (.int .i64 i))] ∧ mm = []) l.length ?_ ?_
  · exact ⟨[], [], by simp, by simp, 0, by omega, fun k n hk => by omega, by simp, by simp⟩
  · rintro j ts mm ⟨i, hi, hlo, rfl, rfl⟩
    by_cases hlt : i < l.length
    · obtain ⟨x, hx⟩ : ∃ x, l[i]? = some x := ⟨_, List.getElem?_eq_getElem (by omega)⟩
      have hxo := hok x (List.mem_of_getElem? hx)
      have hd : decide ((i : Int) < (l.length : Int)) = true := by rw [decide_eq_true_eq]; omega
      have hd2 : decide (i < l.length) = true := by simp [hlt]
      have h64 : IntKind.wrap .i64 ((i : Int) + 1) = ((i + 1 : Nat) : Int) := by rw [IntWalk.i64_in _ (by omega)]; rfl
      have more (h1 : hasS s x.who.toNat = true) (h2 : FitsV s x.past) (h3 : 0 < i → ∀ p, l[i - 1]? = some p → p.who < x.who) : ∀ k m, k < i + 1 → l[k]? = some m → hasS s m.who.toNat = true ∧ FitsV s m.past ∧ (0 < k → ∀ p, l[k - 1]? = some p → p.who < m.who) := by
        intro k m hk hm
        by_cases hki : k = i
        · subst hki; rw [hx] at hm; cases hm; exact ⟨h1, h2, h3⟩
        · exact hlo k m (by omega) hm
      obtain ⟨w, v⟩ := x
      obtain ⟨hw0, hw1, hv⟩ := id hxo
      simp only at hw0 hw1 hv more
      have hvl := hv.1
      cases hh : hasS s w.toNat
      · have hno : rightB s l = false := right_no fun hF => by have := (hF.2 i _ hx).1; simp only at this; rw [hh] at this; cases this
        rw [hno]
        repeat' first
            | with_reducible refine wp_regionS (seg_eval (by simp -dsimp -implicitDefEqProofs [zV_rest, avMk, cMk, hd, hd2, h64, hx, hw0, hw1, hvl, hsl, hh, spHas]; rfl) ?_)
            | with_reducible refine wp_region (seg_eval (by simp -dsimp -implicitDefEqProofs [zV_rest, avMk, cMk, hd, hd2, h64, hx, hw0, hw1, hvl, hsl, hh, spHas]; rfl) ?_)
            | with_reducible refine wp_drawsS (seg_eval (by simp -dsimp -implicitDefEqProofs [zV_rest, avMk, cMk, hd, hd2, h64, hx, hw0, hw1, hvl, hsl, hh, spHas]; rfl) ?_)
            | with_reducible refine wp_draws (seg_eval (by simp -dsimp -implicitDefEqProofs [zV_rest, avMk, cMk, hd, hd2, h64, hx, hw0, hw1, hvl, hsl, hh, spHas]; rfl) ?_)
            | with_reducible refine seg_fin ?_
            | with_reducible refine seg_pan ?_
            | with_reducible refine seg_both ?_ ?_
            | with_reducible refine seg_case (fun x h => ?_) (fun h => ?_)
            | with_reducible refine seg_gate (fun h => ?_) (fun h => ?_)
            | with_reducible refine seg_need ?_ ?_
            | with_reducible refine wp_assoc ?_ | with_reducible refine wp_skipS ?_ | with_reducible refine wp_retS ?_ | with_reducible refine wp_exitS ?_ | with_reducible refine wp_dropS (wp_eqT (by simp -dsimp -implicitDefEqProofs [zV_rest, avMk, cMk, hd, hd2, h64, hx, hw0, hw1, hvl, hsl, hh, spHas]; rfl) ?_) | with_reducible refine wp_sealS (by simp -dsimp -implicitDefEqProofs [zV_rest, avMk, cMk, hd, hd2, h64, hx, hw0, hw1, hvl, hsl, hh, spHas]; rfl) ?_ | with_reducible refine wp_seal (by simp -dsimp -implicitDefEqProofs [zV_rest, avMk, cMk, hd, hd2, h64, hx, hw0, hw1, hvl, hsl, hh, spHas]; rfl) ?_ | with_reducible refine wp_closeS (by simp -dsimp -implicitDefEqProofs [zV_rest, avMk, cMk, hd, hd2, h64, hx, hw0, hw1, hvl, hsl, hh, spHas]; rfl) ?_ | with_reducible refine wp_close (by simp -dsimp -implicitDefEqProofs [zV_rest, avMk, cMk, hd, hd2, h64, hx, hw0, hw1, hvl, hsl, hh, spHas]; rfl) ?_ | with_reducible refine wp_conc_out ?_ | with_reducible refine wp_open_out ?_ | with_reducible refine wp_pack_out ?_ | with_reducible refine wp_blockS ?_ | with_reducible refine wp_skip' ?_ | with_reducible refine wp_ret' ?_ | with_reducible refine wp_exit' ?_ | with_reducible refine wp_drop (wp_eqT (by simp -dsimp -implicitDefEqProofs [zV_rest, avMk, cMk, hd, hd2, h64, hx, hw0, hw1, hvl, hsl, hh, spHas]; rfl) ?_) | with_reducible refine wp_block' ?_
            | with_reducible refine wp_condVS (by simp -dsimp -implicitDefEqProofs [zV_rest, avMk, cMk, hd, hd2, h64, hx, hw0, hw1, hvl, hsl, hh, spHas]; rfl) ?_
            | with_reducible refine wp_condV (by simp -dsimp -implicitDefEqProofs [zV_rest, avMk, cMk, hd, hd2, h64, hx, hw0, hw1, hvl, hsl, hh, spHas]; rfl) ?_
            | with_reducible refine cond_t ?_ | with_reducible refine cond_f ?_ | with_reducible refine cond_v (fun h => ?_) (fun h => ?_)
            | with_reducible refine post_then ?_ | with_reducible refine post_thenE ?_ | with_reducible refine post_thenP ?_ | with_reducible refine post_blkP ?_ | with_reducible refine post_thenR ?_ | with_reducible refine post_blkN ?_ | with_reducible refine post_blkE ?_ | with_reducible refine post_blkF rfl ?_ | with_reducible refine post_blkR ?_
            | with_reducible refine seg_eval (by simp -dsimp -implicitDefEqProofs [zV_rest, avMk, cMk, hd, hd2, h64, hx, hw0, hw1, hvl, hsl, hh, spHas]; rfl) ?_
        all_goals first
          | omega
          | exact post_fin rfl rfl ⟨[], [], rfl, rfl, rfl, rfl⟩
          | trace_state
      · cases hf : fitsB s v
        · have hno : rightB s l = false := right_no fun hF => by have := fits_yes (hF.2 i _ hx).2.1; simp only at this; rw [hf] at this; cases this
          rw [hno]
          repeat' first
              | with_reducible refine wp_regionS (seg_eval (by simp -dsimp -implicitDefEqProofs [zV_rest, avMk, cMk, hd, hd2, h64, hx, hw0, hw1, hv, hvl, hsl, hh, hf, spHas, fitsRAt]; rfl) ?_)
              | with_reducible refine wp_region (seg_eval (by simp -dsimp -implicitDefEqProofs [zV_rest, avMk, cMk, hd, hd2, h64, hx, hw0, hw1, hv, hvl, hsl, hh, hf, spHas, fitsRAt]; rfl) ?_)
              | with_reducible refine wp_drawsS (seg_eval (by simp -dsimp -implicitDefEqProofs [zV_rest, avMk, cMk, hd, hd2, h64, hx, hw0, hw1, hv, hvl, hsl, hh, hf, spHas, fitsRAt]; rfl) ?_)
              | with_reducible refine wp_draws (seg_eval (by simp -dsimp -implicitDefEqProofs [zV_rest, avMk, cMk, hd, hd2, h64, hx, hw0, hw1, hv, hvl, hsl, hh, hf, spHas, fitsRAt]; rfl) ?_)
              | with_reducible refine seg_fin ?_
              | with_reducible refine seg_pan ?_
              | with_reducible refine seg_both ?_ ?_
              | with_reducible refine seg_case (fun x h => ?_) (fun h => ?_)
              | with_reducible refine seg_gate (fun h => ?_) (fun h => ?_)
              | with_reducible refine seg_need ?_ ?_
              | with_reducible refine wp_assoc ?_ | with_reducible refine wp_skipS ?_ | with_reducible refine wp_retS ?_ | with_reducible refine wp_exitS ?_ | with_reducible refine wp_dropS (wp_eqT (by simp -dsimp -implicitDefEqProofs [zV_rest, avMk, cMk, hd, hd2, h64, hx, hw0, hw1, hv, hvl, hsl, hh, hf, spHas, fitsRAt]; rfl) ?_) | with_reducible refine wp_sealS (by simp -dsimp -implicitDefEqProofs [zV_rest, avMk, cMk, hd, hd2, h64, hx, hw0, hw1, hv, hvl, hsl, hh, hf, spHas, fitsRAt]; rfl) ?_ | with_reducible refine wp_seal (by simp -dsimp -implicitDefEqProofs [zV_rest, avMk, cMk, hd, hd2, h64, hx, hw0, hw1, hv, hvl, hsl, hh, hf, spHas, fitsRAt]; rfl) ?_ | with_reducible refine wp_closeS (by simp -dsimp -implicitDefEqProofs [zV_rest, avMk, cMk, hd, hd2, h64, hx, hw0, hw1, hv, hvl, hsl, hh, hf, spHas, fitsRAt]; rfl) ?_ | with_reducible refine wp_close (by simp -dsimp -implicitDefEqProofs [zV_rest, avMk, cMk, hd, hd2, h64, hx, hw0, hw1, hv, hvl, hsl, hh, hf, spHas, fitsRAt]; rfl) ?_ | with_reducible refine wp_conc_out ?_ | with_reducible refine wp_open_out ?_ | with_reducible refine wp_pack_out ?_ | with_reducible refine wp_blockS ?_ | with_reducible refine wp_skip' ?_ | with_reducible refine wp_ret' ?_ | with_reducible refine wp_exit' ?_ | with_reducible refine wp_drop (wp_eqT (by simp -dsimp -implicitDefEqProofs [zV_rest, avMk, cMk, hd, hd2, h64, hx, hw0, hw1, hv, hvl, hsl, hh, hf, spHas, fitsRAt]; rfl) ?_) | with_reducible refine wp_block' ?_
              | with_reducible refine wp_condVS (by simp -dsimp -implicitDefEqProofs [zV_rest, avMk, cMk, hd, hd2, h64, hx, hw0, hw1, hv, hvl, hsl, hh, hf, spHas, fitsRAt]; rfl) ?_
              | with_reducible refine wp_condV (by simp -dsimp -implicitDefEqProofs [zV_rest, avMk, cMk, hd, hd2, h64, hx, hw0, hw1, hv, hvl, hsl, hh, hf, spHas, fitsRAt]; rfl) ?_
              | with_reducible refine cond_t ?_ | with_reducible refine cond_f ?_ | with_reducible refine cond_v (fun h => ?_) (fun h => ?_)
              | with_reducible refine post_then ?_ | with_reducible refine post_thenE ?_ | with_reducible refine post_thenP ?_ | with_reducible refine post_blkP ?_ | with_reducible refine post_thenR ?_ | with_reducible refine post_blkN ?_ | with_reducible refine post_blkE ?_ | with_reducible refine post_blkF rfl ?_ | with_reducible refine post_blkR ?_
              | with_reducible refine seg_eval (by simp -dsimp -implicitDefEqProofs [zV_rest, avMk, cMk, hd, hd2, h64, hx, hw0, hw1, hv, hvl, hsl, hh, hf, spHas, fitsRAt]; rfl) ?_
          all_goals first
            | omega
            | exact post_fin rfl rfl ⟨[], [], rfl, rfl, rfl, rfl⟩
            | trace_state
        · rcases Nat.eq_zero_or_pos i with h0 | h0
          · subst h0
            repeat' first
                | with_reducible refine wp_regionS (seg_eval (by simp -dsimp -implicitDefEqProofs [zV_rest, avMk, cMk, hd, hd2, h64, hx, hw0, hw1, hv, hvl, hsl, hh, hf, spHas, fitsRAt]; rfl) ?_)
                | with_reducible refine wp_region (seg_eval (by simp -dsimp -implicitDefEqProofs [zV_rest, avMk, cMk, hd, hd2, h64, hx, hw0, hw1, hv, hvl, hsl, hh, hf, spHas, fitsRAt]; rfl) ?_)
                | with_reducible refine wp_drawsS (seg_eval (by simp -dsimp -implicitDefEqProofs [zV_rest, avMk, cMk, hd, hd2, h64, hx, hw0, hw1, hv, hvl, hsl, hh, hf, spHas, fitsRAt]; rfl) ?_)
                | with_reducible refine wp_draws (seg_eval (by simp -dsimp -implicitDefEqProofs [zV_rest, avMk, cMk, hd, hd2, h64, hx, hw0, hw1, hv, hvl, hsl, hh, hf, spHas, fitsRAt]; rfl) ?_)
                | with_reducible refine seg_fin ?_
                | with_reducible refine seg_pan ?_
                | with_reducible refine seg_both ?_ ?_
                | with_reducible refine seg_case (fun x h => ?_) (fun h => ?_)
                | with_reducible refine seg_gate (fun h => ?_) (fun h => ?_)
                | with_reducible refine seg_need ?_ ?_
                | with_reducible refine wp_assoc ?_ | with_reducible refine wp_skipS ?_ | with_reducible refine wp_retS ?_ | with_reducible refine wp_exitS ?_ | with_reducible refine wp_dropS (wp_eqT (by simp -dsimp -implicitDefEqProofs [zV_rest, avMk, cMk, hd, hd2, h64, hx, hw0, hw1, hv, hvl, hsl, hh, hf, spHas, fitsRAt]; rfl) ?_) | with_reducible refine wp_sealS (by simp -dsimp -implicitDefEqProofs [zV_rest, avMk, cMk, hd, hd2, h64, hx, hw0, hw1, hv, hvl, hsl, hh, hf, spHas, fitsRAt]; rfl) ?_ | with_reducible refine wp_seal (by simp -dsimp -implicitDefEqProofs [zV_rest, avMk, cMk, hd, hd2, h64, hx, hw0, hw1, hv, hvl, hsl, hh, hf, spHas, fitsRAt]; rfl) ?_ | with_reducible refine wp_closeS (by simp -dsimp -implicitDefEqProofs [zV_rest, avMk, cMk, hd, hd2, h64, hx, hw0, hw1, hv, hvl, hsl, hh, hf, spHas, fitsRAt]; rfl) ?_ | with_reducible refine wp_close (by simp -dsimp -implicitDefEqProofs [zV_rest, avMk, cMk, hd, hd2, h64, hx, hw0, hw1, hv, hvl, hsl, hh, hf, spHas, fitsRAt]; rfl) ?_ | with_reducible refine wp_conc_out ?_ | with_reducible refine wp_open_out ?_ | with_reducible refine wp_pack_out ?_ | with_reducible refine wp_blockS ?_ | with_reducible refine wp_skip' ?_ | with_reducible refine wp_ret' ?_ | with_reducible refine wp_exit' ?_ | with_reducible refine wp_drop (wp_eqT (by simp -dsimp -implicitDefEqProofs [zV_rest, avMk, cMk, hd, hd2, h64, hx, hw0, hw1, hv, hvl, hsl, hh, hf, spHas, fitsRAt]; rfl) ?_) | with_reducible refine wp_block' ?_
                | with_reducible refine wp_condVS (by simp -dsimp -implicitDefEqProofs [zV_rest, avMk, cMk, hd, hd2, h64, hx, hw0, hw1, hv, hvl, hsl, hh, hf, spHas, fitsRAt]; rfl) ?_
                | with_reducible refine wp_condV (by simp -dsimp -implicitDefEqProofs [zV_rest, avMk, cMk, hd, hd2, h64, hx, hw0, hw1, hv, hvl, hsl, hh, hf, spHas, fitsRAt]; rfl) ?_
                | with_reducible refine cond_t ?_ | with_reducible refine cond_f ?_ | with_reducible refine cond_v (fun h => ?_) (fun h => ?_)
                | with_reducible refine post_then ?_ | with_reducible refine post_thenE ?_ | with_reducible refine post_thenP ?_ | with_reducible refine post_blkP ?_ | with_reducible refine post_thenR ?_ | with_reducible refine post_blkN ?_ | with_reducible refine post_blkE ?_ | with_reducible refine post_blkF rfl ?_ | with_reducible refine post_blkR ?_
                | with_reducible refine seg_eval (by simp -dsimp -implicitDefEqProofs [zV_rest, avMk, cMk, hd, hd2, h64, hx, hw0, hw1, hv, hvl, hsl, hh, hf, spHas, fitsRAt]; rfl) ?_
            all_goals first
              | omega
              | exact ⟨j - 1, by omega, [], [], by simp, by simp, 1, by omega, more hh (fits_iff.1 hf) (fun h => by omega), by simp [avMk]; decide, by simp⟩
              | trace_state
          · obtain ⟨i', hi'⟩ : ∃ i', i = i' + 1 := ⟨i - 1, by omega⟩
            obtain ⟨y, hy⟩ : ∃ y, l[i']? = some y := ⟨_, List.getElem?_eq_getElem (by omega)⟩
            have hyo := hok y (List.mem_of_getElem? hy)
            obtain ⟨w2, v2⟩ := y
            obtain ⟨_, _, hv2⟩ := id hyo
            simp only at hv2
            have hvl2 := hv2.1
            have c0 : decide ((0 : Int) < (i : Int)) = true := by rw [decide_eq_true_eq]; omega
            have c0n : decide (0 < i) = true := by rw [decide_eq_true_eq]; omega
            have h65 : IntKind.wrap .i64 ((i : Int) - 1) = (i' : Int) := by rw [IntWalk.i64_in _ (by omega)]; omega
            by_cases hlt2 : w2 < w
            · have hc : decide (w ≤ w2) = false := by rw [decide_eq_false_iff_not]; omega
              repeat' first
                  | with_reducible refine wp_regionS (seg_eval (by simp -dsimp -implicitDefEqProofs [zV_rest, avMk, cMk, hd, hd2, h64, h65, hx, hy, hw0, hw1, hv, hvl, hvl2, hsl, hh, hf, c0, c0n, hc, hxo, hyo, spHas, fitsRAt]; rfl) ?_)
                  | with_reducible refine wp_region (seg_eval (by simp -dsimp -implicitDefEqProofs [zV_rest, avMk, cMk, hd, hd2, h64, h65, hx, hy, hw0, hw1, hv, hvl, hvl2, hsl, hh, hf, c0, c0n, hc, hxo, hyo, spHas, fitsRAt]; rfl) ?_)
                  | with_reducible refine wp_drawsS (seg_eval (by simp -dsimp -implicitDefEqProofs [zV_rest, avMk, cMk, hd, hd2, h64, h65, hx, hy, hw0, hw1, hv, hvl, hvl2, hsl, hh, hf, c0, c0n, hc, hxo, hyo, spHas, fitsRAt]; rfl) ?_)
                  | with_reducible refine wp_draws (seg_eval (by simp -dsimp -implicitDefEqProofs [zV_rest, avMk, cMk, hd, hd2, h64, h65, hx, hy, hw0, hw1, hv, hvl, hvl2, hsl, hh, hf, c0, c0n, hc, hxo, hyo, spHas, fitsRAt]; rfl) ?_)
                  | with_reducible refine seg_fin ?_
                  | with_reducible refine seg_pan ?_
                  | with_reducible refine seg_both ?_ ?_
                  | with_reducible refine seg_case (fun x h => ?_) (fun h => ?_)
                  | with_reducible refine seg_gate (fun h => ?_) (fun h => ?_)
                  | with_reducible refine seg_need ?_ ?_
                  | with_reducible refine wp_assoc ?_ | with_reducible refine wp_skipS ?_ | with_reducible refine wp_retS ?_ | with_reducible refine wp_exitS ?_ | with_reducible refine wp_dropS (wp_eqT (by simp -dsimp -implicitDefEqProofs [zV_rest, avMk, cMk, hd, hd2, h64, h65, hx, hy, hw0, hw1, hv, hvl, hvl2, hsl, hh, hf, c0, c0n, hc, hxo, hyo, spHas, fitsRAt]; rfl) ?_) | with_reducible refine wp_sealS (by simp -dsimp -implicitDefEqProofs [zV_rest, avMk, cMk, hd, hd2, h64, h65, hx, hy, hw0, hw1, hv, hvl, hvl2, hsl, hh, hf, c0, c0n, hc, hxo, hyo, spHas, fitsRAt]; rfl) ?_ | with_reducible refine wp_seal (by simp -dsimp -implicitDefEqProofs [zV_rest, avMk, cMk, hd, hd2, h64, h65, hx, hy, hw0, hw1, hv, hvl, hvl2, hsl, hh, hf, c0, c0n, hc, hxo, hyo, spHas, fitsRAt]; rfl) ?_ | with_reducible refine wp_closeS (by simp -dsimp -implicitDefEqProofs [zV_rest, avMk, cMk, hd, hd2, h64, h65, hx, hy, hw0, hw1, hv, hvl, hvl2, hsl, hh, hf, c0, c0n, hc, hxo, hyo, spHas, fitsRAt]; rfl) ?_ | with_reducible refine wp_close (by simp -dsimp -implicitDefEqProofs [zV_rest, avMk, cMk, hd, hd2, h64, h65, hx, hy, hw0, hw1, hv, hvl, hvl2, hsl, hh, hf, c0, c0n, hc, hxo, hyo, spHas, fitsRAt]; rfl) ?_ | with_reducible refine wp_conc_out ?_ | with_reducible refine wp_open_out ?_ | with_reducible refine wp_pack_out ?_ | with_reducible refine wp_blockS ?_ | with_reducible refine wp_skip' ?_ | with_reducible refine wp_ret' ?_ | with_reducible refine wp_exit' ?_ | with_reducible refine wp_drop (wp_eqT (by simp -dsimp -implicitDefEqProofs [zV_rest, avMk, cMk, hd, hd2, h64, h65, hx, hy, hw0, hw1, hv, hvl, hvl2, hsl, hh, hf, c0, c0n, hc, hxo, hyo, spHas, fitsRAt]; rfl) ?_) | with_reducible refine wp_block' ?_
                  | with_reducible refine wp_condVS (by simp -dsimp -implicitDefEqProofs [zV_rest, avMk, cMk, hd, hd2, h64, h65, hx, hy, hw0, hw1, hv, hvl, hvl2, hsl, hh, hf, c0, c0n, hc, hxo, hyo, spHas, fitsRAt]; rfl) ?_
                  | with_reducible refine wp_condV (by simp -dsimp -implicitDefEqProofs [zV_rest, avMk, cMk, hd, hd2, h64, h65, hx, hy, hw0, hw1, hv, hvl, hvl2, hsl, hh, hf, c0, c0n, hc, hxo, hyo, spHas, fitsRAt]; rfl) ?_
                  | with_reducible refine cond_t ?_ | with_reducible refine cond_f ?_ | with_reducible refine cond_v (fun h => ?_) (fun h => ?_)
                  | with_reducible refine post_then ?_ | with_reducible refine post_thenE ?_ | with_reducible refine post_thenP ?_ | with_reducible refine post_blkP ?_ | with_reducible refine post_thenR ?_ | with_reducible refine post_blkN ?_ | with_reducible refine post_blkE ?_ | with_reducible refine post_blkF rfl ?_ | with_reducible refine post_blkR ?_
                  | with_reducible refine seg_eval (by simp -dsimp -implicitDefEqProofs [zV_rest, avMk, cMk, hd, hd2, h64, h65, hx, hy, hw0, hw1, hv, hvl, hvl2, hsl, hh, hf, c0, c0n, hc, hxo, hyo, spHas, fitsRAt]; rfl) ?_
              all_goals first
                | omega
                | exact ⟨hyo, hxo⟩
                | exact ⟨j - 1, by omega, [], [], by simp, by simp, i + 1, by omega, more hh (fits_iff.1 hf) (fun _ p hp => by rw [show i - 1 = i' by omega] at hp; rw [hy] at hp; cases hp; exact hlt2), by simp [avMk], by simp⟩
                | trace_state
            · have hc : decide (w ≤ w2) = true := by rw [decide_eq_true_eq]; omega
              have hno : rightB s l = false := right_no fun hF => by
                have := (hF.2 i _ hx).2.2 (by omega) _ (by rw [show i - 1 = i' by omega]; exact hy)
                simp only at this; omega
              rw [hno]
              repeat' first
                  | with_reducible refine wp_regionS (seg_eval (by simp -dsimp -implicitDefEqProofs [zV_rest, avMk, cMk, hd, hd2, h64, h65, hx, hy, hw0, hw1, hv, hvl, hvl2, hsl, hh, hf, c0, c0n, hc, hxo, hyo, spHas, fitsRAt]; rfl) ?_)
                  | with_reducible refine wp_region (seg_eval (by simp -dsimp -implicitDefEqProofs [zV_rest, avMk, cMk, hd, hd2, h64, h65, hx, hy, hw0, hw1, hv, hvl, hvl2, hsl, hh, hf, c0, c0n, hc, hxo, hyo, spHas, fitsRAt]; rfl) ?_)
                  | with_reducible refine wp_drawsS (seg_eval (by simp -dsimp -implicitDefEqProofs [zV_rest, avMk, cMk, hd, hd2, h64, h65, hx, hy, hw0, hw1, hv, hvl, hvl2, hsl, hh, hf, c0, c0n, hc, hxo, hyo, spHas, fitsRAt]; rfl) ?_)
                  | with_reducible refine wp_draws (seg_eval (by simp -dsimp -implicitDefEqProofs [zV_rest, avMk, cMk, hd, hd2, h64, h65, hx, hy, hw0, hw1, hv, hvl, hvl2, hsl, hh, hf, c0, c0n, hc, hxo, hyo, spHas, fitsRAt]; rfl) ?_)
                  | with_reducible refine seg_fin ?_
                  | with_reducible refine seg_pan ?_
                  | with_reducible refine seg_both ?_ ?_
                  | with_reducible refine seg_case (fun x h => ?_) (fun h => ?_)
                  | with_reducible refine seg_gate (fun h => ?_) (fun h => ?_)
                  | with_reducible refine seg_need ?_ ?_
                  | with_reducible refine wp_assoc ?_ | with_reducible refine wp_skipS ?_ | with_reducible refine wp_retS ?_ | with_reducible refine wp_exitS ?_ | with_reducible refine wp_dropS (wp_eqT (by simp -dsimp -implicitDefEqProofs [zV_rest, avMk, cMk, hd, hd2, h64, h65, hx, hy, hw0, hw1, hv, hvl, hvl2, hsl, hh, hf, c0, c0n, hc, hxo, hyo, spHas, fitsRAt]; rfl) ?_) | with_reducible refine wp_sealS (by simp -dsimp -implicitDefEqProofs [zV_rest, avMk, cMk, hd, hd2, h64, h65, hx, hy, hw0, hw1, hv, hvl, hvl2, hsl, hh, hf, c0, c0n, hc, hxo, hyo, spHas, fitsRAt]; rfl) ?_ | with_reducible refine wp_seal (by simp -dsimp -implicitDefEqProofs [zV_rest, avMk, cMk, hd, hd2, h64, h65, hx, hy, hw0, hw1, hv, hvl, hvl2, hsl, hh, hf, c0, c0n, hc, hxo, hyo, spHas, fitsRAt]; rfl) ?_ | with_reducible refine wp_closeS (by simp -dsimp -implicitDefEqProofs [zV_rest, avMk, cMk, hd, hd2, h64, h65, hx, hy, hw0, hw1, hv, hvl, hvl2, hsl, hh, hf, c0, c0n, hc, hxo, hyo, spHas, fitsRAt]; rfl) ?_ | with_reducible refine wp_close (by simp -dsimp -implicitDefEqProofs [zV_rest, avMk, cMk, hd, hd2, h64, h65, hx, hy, hw0, hw1, hv, hvl, hvl2, hsl, hh, hf, c0, c0n, hc, hxo, hyo, spHas, fitsRAt]; rfl) ?_ | with_reducible refine wp_conc_out ?_ | with_reducible refine wp_open_out ?_ | with_reducible refine wp_pack_out ?_ | with_reducible refine wp_blockS ?_ | with_reducible refine wp_skip' ?_ | with_reducible refine wp_ret' ?_ | with_reducible refine wp_exit' ?_ | with_reducible refine wp_drop (wp_eqT (by simp -dsimp -implicitDefEqProofs [zV_rest, avMk, cMk, hd, hd2, h64, h65, hx, hy, hw0, hw1, hv, hvl, hvl2, hsl, hh, hf, c0, c0n, hc, hxo, hyo, spHas, fitsRAt]; rfl) ?_) | with_reducible refine wp_block' ?_
                  | with_reducible refine wp_condVS (by simp -dsimp -implicitDefEqProofs [zV_rest, avMk, cMk, hd, hd2, h64, h65, hx, hy, hw0, hw1, hv, hvl, hvl2, hsl, hh, hf, c0, c0n, hc, hxo, hyo, spHas, fitsRAt]; rfl) ?_
                  | with_reducible refine wp_condV (by simp -dsimp -implicitDefEqProofs [zV_rest, avMk, cMk, hd, hd2, h64, h65, hx, hy, hw0, hw1, hv, hvl, hvl2, hsl, hh, hf, c0, c0n, hc, hxo, hyo, spHas, fitsRAt]; rfl) ?_
                  | with_reducible refine cond_t ?_ | with_reducible refine cond_f ?_ | with_reducible refine cond_v (fun h => ?_) (fun h => ?_)
                  | with_reducible refine post_then ?_ | with_reducible refine post_thenE ?_ | with_reducible refine post_thenP ?_ | with_reducible refine post_blkP ?_ | with_reducible refine post_thenR ?_ | with_reducible refine post_blkN ?_ | with_reducible refine post_blkE ?_ | with_reducible refine post_blkF rfl ?_ | with_reducible refine post_blkR ?_
                  | with_reducible refine seg_eval (by simp -dsimp -implicitDefEqProofs [zV_rest, avMk, cMk, hd, hd2, h64, h65, hx, hy, hw0, hw1, hv, hvl, hvl2, hsl, hh, hf, c0, c0n, hc, hxo, hyo, spHas, fitsRAt]; rfl) ?_
              all_goals first
                | omega
                | exact ⟨hyo, hxo⟩
                | exact post_fin rfl rfl ⟨[], [], rfl, rfl, rfl, rfl⟩
                | trace_state
    · have hd : decide ((i : Int) < (l.length : Int)) = false := by rw [decide_eq_false_iff_not]; omega
      have hd2 : decide (i < l.length) = false := by simp [hlt]
      have hall : MarksF s l := fun k n hn => hlo k n (by have := (List.getElem?_eq_some_iff.1 hn).1; omega) hn
      by_cases hz : s = 0
      · have hno : rightB s l = false := right_no fun hF => hF.1 hz
        rw [hno]
        subst hz
        repeat' first
            | with_reducible refine wp_regionS (seg_eval (by simp -dsimp -implicitDefEqProofs [hd, hd2]; rfl) ?_)
            | with_reducible refine wp_region (seg_eval (by simp -dsimp -implicitDefEqProofs [hd, hd2]; rfl) ?_)
            | with_reducible refine wp_drawsS (seg_eval (by simp -dsimp -implicitDefEqProofs [hd, hd2]; rfl) ?_)
            | with_reducible refine wp_draws (seg_eval (by simp -dsimp -implicitDefEqProofs [hd, hd2]; rfl) ?_)
            | with_reducible refine seg_fin ?_
            | with_reducible refine seg_pan ?_
            | with_reducible refine seg_both ?_ ?_
            | with_reducible refine seg_case (fun x h => ?_) (fun h => ?_)
            | with_reducible refine seg_gate (fun h => ?_) (fun h => ?_)
            | with_reducible refine seg_need ?_ ?_
            | with_reducible refine wp_assoc ?_ | with_reducible refine wp_skipS ?_ | with_reducible refine wp_retS ?_ | with_reducible refine wp_exitS ?_ | with_reducible refine wp_dropS (wp_eqT (by simp -dsimp -implicitDefEqProofs [hd, hd2]; rfl) ?_) | with_reducible refine wp_sealS (by simp -dsimp -implicitDefEqProofs [hd, hd2]; rfl) ?_ | with_reducible refine wp_seal (by simp -dsimp -implicitDefEqProofs [hd, hd2]; rfl) ?_ | with_reducible refine wp_closeS (by simp -dsimp -implicitDefEqProofs [hd, hd2]; rfl) ?_ | with_reducible refine wp_close (by simp -dsimp -implicitDefEqProofs [hd, hd2]; rfl) ?_ | with_reducible refine wp_conc_out ?_ | with_reducible refine wp_open_out ?_ | with_reducible refine wp_pack_out ?_ | with_reducible refine wp_blockS ?_ | with_reducible refine wp_skip' ?_ | with_reducible refine wp_ret' ?_ | with_reducible refine wp_exit' ?_ | with_reducible refine wp_drop (wp_eqT (by simp -dsimp -implicitDefEqProofs [hd, hd2]; rfl) ?_) | with_reducible refine wp_block' ?_
            | with_reducible refine wp_condVS (by simp -dsimp -implicitDefEqProofs [hd, hd2]; rfl) ?_
            | with_reducible refine wp_condV (by simp -dsimp -implicitDefEqProofs [hd, hd2]; rfl) ?_
            | with_reducible refine cond_t ?_ | with_reducible refine cond_f ?_ | with_reducible refine cond_v (fun h => ?_) (fun h => ?_)
            | with_reducible refine post_then ?_ | with_reducible refine post_thenE ?_ | with_reducible refine post_thenP ?_ | with_reducible refine post_blkP ?_ | with_reducible refine post_thenR ?_ | with_reducible refine post_blkN ?_ | with_reducible refine post_blkE ?_ | with_reducible refine post_blkF rfl ?_ | with_reducible refine post_blkR ?_
            | with_reducible refine seg_eval (by simp -dsimp -implicitDefEqProofs [hd, hd2]; rfl) ?_
        all_goals first
          | omega
          | exact post_fin rfl rfl ⟨[], [], rfl, rfl, rfl, rfl⟩
          | trace_state
      · have hyes : rightB s l = true := right_yes ⟨hz, hall⟩
        rw [hyes]
        repeat' first
            | with_reducible refine wp_regionS (seg_eval (by simp -dsimp -implicitDefEqProofs [hd, hd2]; rfl) ?_)
            | with_reducible refine wp_region (seg_eval (by simp -dsimp -implicitDefEqProofs [hd, hd2]; rfl) ?_)
            | with_reducible refine wp_drawsS (seg_eval (by simp -dsimp -implicitDefEqProofs [hd, hd2]; rfl) ?_)
            | with_reducible refine wp_draws (seg_eval (by simp -dsimp -implicitDefEqProofs [hd, hd2]; rfl) ?_)
            | with_reducible refine seg_fin ?_
            | with_reducible refine seg_pan ?_
            | with_reducible refine seg_both ?_ ?_
            | with_reducible refine seg_case (fun x h => ?_) (fun h => ?_)
            | with_reducible refine seg_gate (fun h => ?_) (fun h => ?_)
            | with_reducible refine seg_need ?_ ?_
            | with_reducible refine wp_assoc ?_ | with_reducible refine wp_skipS ?_ | with_reducible refine wp_retS ?_ | with_reducible refine wp_exitS ?_ | with_reducible refine wp_dropS (wp_eqT (by simp -dsimp -implicitDefEqProofs [hd, hd2]; rfl) ?_) | with_reducible refine wp_sealS (by simp -dsimp -implicitDefEqProofs [hd, hd2]; rfl) ?_ | with_reducible refine wp_seal (by simp -dsimp -implicitDefEqProofs [hd, hd2]; rfl) ?_ | with_reducible refine wp_closeS (by simp -dsimp -implicitDefEqProofs [hd, hd2]; rfl) ?_ | with_reducible refine wp_close (by simp -dsimp -implicitDefEqProofs [hd, hd2]; rfl) ?_ | with_reducible refine wp_conc_out ?_ | with_reducible refine wp_open_out ?_ | with_reducible refine wp_pack_out ?_ | with_reducible refine wp_blockS ?_ | with_reducible refine wp_skip' ?_ | with_reducible refine wp_ret' ?_ | with_reducible refine wp_exit' ?_ | with_reducible refine wp_drop (wp_eqT (by simp -dsimp -implicitDefEqProofs [hd, hd2]; rfl) ?_) | with_reducible refine wp_block' ?_
            | with_reducible refine wp_condVS (by simp -dsimp -implicitDefEqProofs [hd, hd2]; rfl) ?_
            | with_reducible refine wp_condV (by simp -dsimp -implicitDefEqProofs [hd, hd2]; rfl) ?_
            | with_reducible refine cond_t ?_ | with_reducible refine cond_f ?_ | with_reducible refine cond_v (fun h => ?_) (fun h => ?_)
            | with_reducible refine post_then ?_ | with_reducible refine post_thenE ?_ | with_reducible refine post_thenP ?_ | with_reducible refine post_blkP ?_ | with_reducible refine post_thenR ?_ | with_reducible refine post_blkN ?_ | with_reducible refine post_blkE ?_ | with_reducible refine post_blkF rfl ?_ | with_reducible refine post_blkR ?_
            | with_reducible refine seg_eval (by simp -dsimp -implicitDefEqProofs [hd, hd2]; rfl) ?_
        all_goals first
          | omega
          | exact post_bool rfl (by simp [hz])
          | trace_state
end Go.Proofs.Ytbponegjfccgfaa.Am
