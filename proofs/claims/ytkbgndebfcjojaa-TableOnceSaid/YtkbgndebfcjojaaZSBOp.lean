/-
  Where an element stands in a slice that is in order (Op).
-/
import Derived.Test.YtkbgndebfcjojaaZCodeB
import Derived.Test.YtkbgndebfcjojaaZQ5
import Derived.Test.YtkbgndebfcjojaaZQ4
import Derived.Test.YtkbgndebfcjojaaZEOp
namespace Go.Proofs.Ytkbgndebfcjojaa.Am
set_option linter.unusedSimpArgs false
set_option linter.unusedVariables false
open Go Go.Proofs
attribute [local irreducible] wpA

noncomputable def spBSFOp : Spec := spc (X := List Op × Op) (fun p => ([.fsl 7 (p.1.map avOp), avOp p.2, .v (.func (.func 25) #[] #[])], []))
  (fun p => SortK keyOp p.1 ∧ p.1.length ≤ 100000000 ∧ (∀ y ∈ p.1, okOp y) ∧ okOp p.2)
  (fun p => (.ret (.tup [.v (.int .i64 (posK keyOp (keyOp p.2) p.1)), .v (.bool (isK' keyOp (keyOp p.2) p.1))]), []))

set_option maxHeartbeats 4000000 in
theorem bsfOp_ok (hord : CallOk Try.prog 25 spOrdOp) : CallOk Try.prog 24 spBSFOp := by
  refine ok_24 (Env.put_ok [] (Env.none_ok _) hord) spBSFOp (wb_spc ?_)
  rintro ⟨l, x⟩ ⟨hs, hl, hok, hx⟩
  have fx := flatOp x hx
  have tx := takeOp x hx
  have lx := lenOp x hx
  simp only at hs hl hok hx ⊢
  unfold ac_24
  repeat' first
      | with_reducible refine wp_regionS (seg_eval (by simp -dsimp -implicitDefEqProofs [avOp, fx, tx, lx]; rfl) ?_)
      | with_reducible refine wp_region (seg_eval (by simp -dsimp -implicitDefEqProofs [avOp, fx, tx, lx]; rfl) ?_)
      | with_reducible refine wp_drawsS (seg_eval (by simp -dsimp -implicitDefEqProofs [avOp, fx, tx, lx]; rfl) ?_)
      | with_reducible refine wp_draws (seg_eval (by simp -dsimp -implicitDefEqProofs [avOp, fx, tx, lx]; rfl) ?_)
      | with_reducible refine seg_fin ?_
      | with_reducible refine seg_pan ?_
      | with_reducible refine seg_both ?_ ?_
      | with_reducible refine seg_case (fun x h => ?_) (fun h => ?_)
      | with_reducible refine seg_gate (fun h => ?_) (fun h => ?_)
      | with_reducible refine seg_need ?_ ?_
      | with_reducible refine wp_assoc ?_ | with_reducible refine wp_skipS ?_ | with_reducible refine wp_retS ?_ | with_reducible refine wp_exitS ?_ | with_reducible refine wp_dropS (wp_eqT (by simp -dsimp -implicitDefEqProofs [avOp, fx, tx, lx]; rfl) ?_) | with_reducible refine wp_sealS (by simp -dsimp -implicitDefEqProofs [avOp, fx, tx, lx]; rfl) ?_ | with_reducible refine wp_seal (by simp -dsimp -implicitDefEqProofs [avOp, fx, tx, lx]; rfl) ?_ | with_reducible refine wp_closeS (by simp -dsimp -implicitDefEqProofs [avOp, fx, tx, lx]; rfl) ?_ | with_reducible refine wp_close (by simp -dsimp -implicitDefEqProofs [avOp, fx, tx, lx]; rfl) ?_ | with_reducible refine wp_conc_out ?_ | with_reducible refine wp_open_out ?_ | with_reducible refine wp_pack_out ?_ | with_reducible refine wp_blockS ?_ | with_reducible refine wp_skip' ?_ | with_reducible refine wp_ret' ?_ | with_reducible refine wp_exit' ?_ | with_reducible refine wp_drop (wp_eqT (by simp -dsimp -implicitDefEqProofs [avOp, fx, tx, lx]; rfl) ?_) | with_reducible refine wp_block' ?_
      | with_reducible refine wp_condVS (by simp -dsimp -implicitDefEqProofs [avOp, fx, tx, lx]; rfl) ?_
      | with_reducible refine wp_condV (by simp -dsimp -implicitDefEqProofs [avOp, fx, tx, lx]; rfl) ?_
      | with_reducible refine cond_t ?_ | with_reducible refine cond_f ?_ | with_reducible refine cond_v (fun h => ?_) (fun h => ?_)
      | with_reducible refine post_then ?_ | with_reducible refine post_thenE ?_ | with_reducible refine post_thenP ?_ | with_reducible refine post_blkP ?_ | with_reducible refine post_thenR ?_ | with_reducible refine post_blkN ?_ | with_reducible refine post_blkE ?_ | with_reducible refine post_blkF rfl ?_ | with_reducible refine post_blkR ?_
      | with_reducible refine seg_eval (by simp -dsimp -implicitDefEqProofs [avOp, fx, tx, lx]; rfl) ?_
  refine wp_loop' (fun j ts mm => ∃ a b : Nat, a + j = b ∧ b ≤ l.length ∧ (∀ (k : Nat) (y : Op), k < a → l[k]? = some y → keyOp y < keyOp x) ∧ (∀ (k : Nat) (y : Op), b ≤ k → l[k]? = some y → keyOp x ≤ keyOp y) ∧
    ts = [(0, .fsl 7 (l.map avOp)), (2, .v (.func (.func 25) #[] #[])), (4, .fptr (.agg (cOp x)) 0), (8, .v (.int .i64 l.length)), (9, .v (.int .i64 a)), (10, .v (.int .i64 b))] ∧ mm = [.gone]) l.length ?_ ?_
  · exact ⟨[], [0], by simp, by simp, 0, l.length, by omega, by omega, by omega, fun k y hk hy => by have := (List.getElem?_eq_some_iff.1 hy).1; omega, by simp [avOp], by simp⟩
  · rintro j ts mm ⟨a, b, hab, hb, hlo, hhi, rfl, rfl⟩
    by_cases hlt : a < b
    · have hd : decide (a < b) = true := by simp [hlt]
      have hd' : decide ((a : Int) < (b : Int)) = true := by rw [decide_eq_true_eq]; omega
      obtain ⟨h, hh⟩ : ∃ h, h = (a + b) / 2 := ⟨_, rfl⟩
      obtain ⟨y, hy⟩ : ∃ y, l[h]? = some y := ⟨_, List.getElem?_eq_getElem (by omega)⟩
      have hyo := hok y (List.mem_of_getElem? hy)
      have fy := flatOp y hyo
      have ty := takeOp y hyo
      have ly := lenOp y hyo
      have w1 : IntKind.wrap .i64 ((a : Int) + (b : Int)) = (a : Int) + (b : Int) := IntWalk.i64_in _ (by omega)
      have w2 : IntKind.wrap .u64 ((a : Int) + (b : Int)) = (a : Int) + (b : Int) := IntWalk.u64_in _ (by omega)
      have w3 : ((a : Int) + (b : Int)).fdiv (2 ^ 1) = (h : Int) := by rw [Int.fdiv_eq_ediv_of_nonneg _ (by decide), hh]; omega
      have w3' : ((a : Int) + (b : Int)) / 2 = (h : Int) := by omega
      have w4 : IntKind.wrap .i64 (h : Int) = (h : Int) := IntWalk.i64_in _ (by omega)
      have w5 : IntKind.wrap .i64 ((h : Int) + 1) = ((h + 1 : Nat) : Int) := by rw [IntWalk.i64_in _ (by omega)]; rfl
      by_cases hlt2 : keyOp y < keyOp x
      · have hc : decide (cmpI (keyOp y) (keyOp x) < 0) = true := by unfold cmpI; rw [if_pos hlt2]; rfl
        repeat' first
            | with_reducible refine wp_regionS (seg_eval (by simp -dsimp -implicitDefEqProofs [avOp, ordAtOp, fx, tx, lx, fy, ty, ly, hd, hd', hy, w1, w2, w3, w3', w4, w5, hc, hx, hyo]; rfl) ?_)
            | with_reducible refine wp_region (seg_eval (by simp -dsimp -implicitDefEqProofs [avOp, ordAtOp, fx, tx, lx, fy, ty, ly, hd, hd', hy, w1, w2, w3, w3', w4, w5, hc, hx, hyo]; rfl) ?_)
            | with_reducible refine wp_drawsS (seg_eval (by simp -dsimp -implicitDefEqProofs [avOp, ordAtOp, fx, tx, lx, fy, ty, ly, hd, hd', hy, w1, w2, w3, w3', w4, w5, hc, hx, hyo]; rfl) ?_)
            | with_reducible refine wp_draws (seg_eval (by simp -dsimp -implicitDefEqProofs [avOp, ordAtOp, fx, tx, lx, fy, ty, ly, hd, hd', hy, w1, w2, w3, w3', w4, w5, hc, hx, hyo]; rfl) ?_)
            | with_reducible refine seg_fin ?_
            | with_reducible refine seg_pan ?_
            | with_reducible refine seg_both ?_ ?_
            | with_reducible refine seg_case (fun x h => ?_) (fun h => ?_)
            | with_reducible refine seg_gate (fun h => ?_) (fun h => ?_)
            | with_reducible refine seg_need ?_ ?_
            | with_reducible refine wp_assoc ?_ | with_reducible refine wp_skipS ?_ | with_reducible refine wp_retS ?_ | with_reducible refine wp_exitS ?_ | with_reducible refine wp_dropS (wp_eqT (by simp -dsimp -implicitDefEqProofs [avOp, ordAtOp, fx, tx, lx, fy, ty, ly, hd, hd', hy, w1, w2, w3, w3', w4, w5, hc, hx, hyo]; rfl) ?_) | with_reducible refine wp_sealS (by simp -dsimp -implicitDefEqProofs [avOp, ordAtOp, fx, tx, lx, fy, ty, ly, hd, hd', hy, w1, w2, w3, w3', w4, w5, hc, hx, hyo]; rfl) ?_ | with_reducible refine wp_seal (by simp -dsimp -implicitDefEqProofs [avOp, ordAtOp, fx, tx, lx, fy, ty, ly, hd, hd', hy, w1, w2, w3, w3', w4, w5, hc, hx, hyo]; rfl) ?_ | with_reducible refine wp_closeS (by simp -dsimp -implicitDefEqProofs [avOp, ordAtOp, fx, tx, lx, fy, ty, ly, hd, hd', hy, w1, w2, w3, w3', w4, w5, hc, hx, hyo]; rfl) ?_ | with_reducible refine wp_close (by simp -dsimp -implicitDefEqProofs [avOp, ordAtOp, fx, tx, lx, fy, ty, ly, hd, hd', hy, w1, w2, w3, w3', w4, w5, hc, hx, hyo]; rfl) ?_ | with_reducible refine wp_conc_out ?_ | with_reducible refine wp_open_out ?_ | with_reducible refine wp_pack_out ?_ | with_reducible refine wp_blockS ?_ | with_reducible refine wp_skip' ?_ | with_reducible refine wp_ret' ?_ | with_reducible refine wp_exit' ?_ | with_reducible refine wp_drop (wp_eqT (by simp -dsimp -implicitDefEqProofs [avOp, ordAtOp, fx, tx, lx, fy, ty, ly, hd, hd', hy, w1, w2, w3, w3', w4, w5, hc, hx, hyo]; rfl) ?_) | with_reducible refine wp_block' ?_
            | with_reducible refine wp_condVS (by simp -dsimp -implicitDefEqProofs [avOp, ordAtOp, fx, tx, lx, fy, ty, ly, hd, hd', hy, w1, w2, w3, w3', w4, w5, hc, hx, hyo]; rfl) ?_
            | with_reducible refine wp_condV (by simp -dsimp -implicitDefEqProofs [avOp, ordAtOp, fx, tx, lx, fy, ty, ly, hd, hd', hy, w1, w2, w3, w3', w4, w5, hc, hx, hyo]; rfl) ?_
            | with_reducible refine cond_t ?_ | with_reducible refine cond_f ?_ | with_reducible refine cond_v (fun h => ?_) (fun h => ?_)
            | with_reducible refine post_then ?_ | with_reducible refine post_thenE ?_ | with_reducible refine post_thenP ?_ | with_reducible refine post_blkP ?_ | with_reducible refine post_thenR ?_ | with_reducible refine post_blkN ?_ | with_reducible refine post_blkE ?_ | with_reducible refine post_blkF rfl ?_ | with_reducible refine post_blkR ?_
            | with_reducible refine seg_eval (by simp -dsimp -implicitDefEqProofs [avOp, ordAtOp, fx, tx, lx, fy, ty, ly, hd, hd', hy, w1, w2, w3, w3', w4, w5, hc, hx, hyo]; rfl) ?_
        all_goals first
          | omega
          | exact ⟨hyo, hx⟩
          | (refine ⟨b - (h + 1), by omega, [], [0], by simp, by simp, h + 1, b, by omega, by omega, fun k z hk hz => ?_, hhi, by simp [avOp], by simp⟩
             by_cases hkh : k = h
             · subst hkh; rw [hy] at hz; cases hz; exact hlt2
             · have hp := List.pairwise_iff_getElem.1 hs k h (List.getElem?_eq_some_iff.1 hz).1 (List.getElem?_eq_some_iff.1 hy).1 (by omega)
               rw [(List.getElem?_eq_some_iff.1 hz).2, (List.getElem?_eq_some_iff.1 hy).2] at hp
               omega)
          | trace_state
      · have hc : decide (cmpI (keyOp y) (keyOp x) < 0) = false := by unfold cmpI; rw [if_neg hlt2]; split <;> rfl
        repeat' first
            | with_reducible refine wp_regionS (seg_eval (by simp -dsimp -implicitDefEqProofs [avOp, ordAtOp, fx, tx, lx, fy, ty, ly, hd, hd', hy, w1, w2, w3, w3', w4, w5, hc, hx, hyo]; rfl) ?_)
            | with_reducible refine wp_region (seg_eval (by simp -dsimp -implicitDefEqProofs [avOp, ordAtOp, fx, tx, lx, fy, ty, ly, hd, hd', hy, w1, w2, w3, w3', w4, w5, hc, hx, hyo]; rfl) ?_)
            | with_reducible refine wp_drawsS (seg_eval (by simp -dsimp -implicitDefEqProofs [avOp, ordAtOp, fx, tx, lx, fy, ty, ly, hd, hd', hy, w1, w2, w3, w3', w4, w5, hc, hx, hyo]; rfl) ?_)
            | with_reducible refine wp_draws (seg_eval (by simp -dsimp -implicitDefEqProofs [avOp, ordAtOp, fx, tx, lx, fy, ty, ly, hd, hd', hy, w1, w2, w3, w3', w4, w5, hc, hx, hyo]; rfl) ?_)
            | with_reducible refine seg_fin ?_
            | with_reducible refine seg_pan ?_
            | with_reducible refine seg_both ?_ ?_
            | with_reducible refine seg_case (fun x h => ?_) (fun h => ?_)
            | with_reducible refine seg_gate (fun h => ?_) (fun h => ?_)
            | with_reducible refine seg_need ?_ ?_
            | with_reducible refine wp_assoc ?_ | with_reducible refine wp_skipS ?_ | with_reducible refine wp_retS ?_ | with_reducible refine wp_exitS ?_ | with_reducible refine wp_dropS (wp_eqT (by simp -dsimp -implicitDefEqProofs [avOp, ordAtOp, fx, tx, lx, fy, ty, ly, hd, hd', hy, w1, w2, w3, w3', w4, w5, hc, hx, hyo]; rfl) ?_) | with_reducible refine wp_sealS (by simp -dsimp -implicitDefEqProofs [avOp, ordAtOp, fx, tx, lx, fy, ty, ly, hd, hd', hy, w1, w2, w3, w3', w4, w5, hc, hx, hyo]; rfl) ?_ | with_reducible refine wp_seal (by simp -dsimp -implicitDefEqProofs [avOp, ordAtOp, fx, tx, lx, fy, ty, ly, hd, hd', hy, w1, w2, w3, w3', w4, w5, hc, hx, hyo]; rfl) ?_ | with_reducible refine wp_closeS (by simp -dsimp -implicitDefEqProofs [avOp, ordAtOp, fx, tx, lx, fy, ty, ly, hd, hd', hy, w1, w2, w3, w3', w4, w5, hc, hx, hyo]; rfl) ?_ | with_reducible refine wp_close (by simp -dsimp -implicitDefEqProofs [avOp, ordAtOp, fx, tx, lx, fy, ty, ly, hd, hd', hy, w1, w2, w3, w3', w4, w5, hc, hx, hyo]; rfl) ?_ | with_reducible refine wp_conc_out ?_ | with_reducible refine wp_open_out ?_ | with_reducible refine wp_pack_out ?_ | with_reducible refine wp_blockS ?_ | with_reducible refine wp_skip' ?_ | with_reducible refine wp_ret' ?_ | with_reducible refine wp_exit' ?_ | with_reducible refine wp_drop (wp_eqT (by simp -dsimp -implicitDefEqProofs [avOp, ordAtOp, fx, tx, lx, fy, ty, ly, hd, hd', hy, w1, w2, w3, w3', w4, w5, hc, hx, hyo]; rfl) ?_) | with_reducible refine wp_block' ?_
            | with_reducible refine wp_condVS (by simp -dsimp -implicitDefEqProofs [avOp, ordAtOp, fx, tx, lx, fy, ty, ly, hd, hd', hy, w1, w2, w3, w3', w4, w5, hc, hx, hyo]; rfl) ?_
            | with_reducible refine wp_condV (by simp -dsimp -implicitDefEqProofs [avOp, ordAtOp, fx, tx, lx, fy, ty, ly, hd, hd', hy, w1, w2, w3, w3', w4, w5, hc, hx, hyo]; rfl) ?_
            | with_reducible refine cond_t ?_ | with_reducible refine cond_f ?_ | with_reducible refine cond_v (fun h => ?_) (fun h => ?_)
            | with_reducible refine post_then ?_ | with_reducible refine post_thenE ?_ | with_reducible refine post_thenP ?_ | with_reducible refine post_blkP ?_ | with_reducible refine post_thenR ?_ | with_reducible refine post_blkN ?_ | with_reducible refine post_blkE ?_ | with_reducible refine post_blkF rfl ?_ | with_reducible refine post_blkR ?_
            | with_reducible refine seg_eval (by simp -dsimp -implicitDefEqProofs [avOp, ordAtOp, fx, tx, lx, fy, ty, ly, hd, hd', hy, w1, w2, w3, w3', w4, w5, hc, hx, hyo]; rfl) ?_
        all_goals first
          | omega
          | exact ⟨hyo, hx⟩
          | (refine ⟨h - a, by omega, [], [0], by simp, by simp, a, h, by omega, by omega, hlo, fun k z hk hz => ?_, by simp [avOp], by simp⟩
             by_cases hkh : k = h
             · subst hkh; rw [hy] at hz; cases hz; omega
             · have hp := List.pairwise_iff_getElem.1 hs h k (List.getElem?_eq_some_iff.1 hy).1 (List.getElem?_eq_some_iff.1 hz).1 (by omega)
               rw [(List.getElem?_eq_some_iff.1 hz).2, (List.getElem?_eq_some_iff.1 hy).2] at hp
               omega)
          | trace_state
    · have hd : decide (a < b) = false := by simp; omega
      have hd' : decide ((a : Int) < (b : Int)) = false := by rw [decide_eq_false_iff_not]; omega
      have hab' : a = b := by omega
      subst hab'
      have hpos : a = posK keyOp (keyOp x) l := posK_eq hb hlo (fun z hz => hhi a z (Nat.le_refl _) hz)
      have hisk := isK_at (t := keyOp x) hs
      rw [← hpos] at hisk ⊢
      by_cases hal : a < l.length
      · have he : decide (a < l.length) = true := by simp [hal]
        have he' : decide ((a : Int) < (l.length : Int)) = true := by rw [decide_eq_true_eq]; omega
        obtain ⟨y, hy⟩ : ∃ y, l[a]? = some y := ⟨_, List.getElem?_eq_getElem hal⟩
        have hyo := hok y (List.mem_of_getElem? hy)
        have fy := flatOp y hyo
        have ty := takeOp y hyo
        have ly := lenOp y hyo
        rw [hy] at hisk
        have hc : ((cmpI (keyOp y) (keyOp x) == 0) : Bool) = isK' keyOp (keyOp x) l := by
          rw [hisk, Bool.eq_iff_iff]; simp only [beq_iff_eq]; unfold cmpI; split <;> (try split) <;> omega
        repeat' first
            | with_reducible refine wp_regionS (seg_eval (by simp -dsimp -implicitDefEqProofs [avOp, ordAtOp, fx, tx, lx, fy, ty, ly, hd, hd', he, he', hy, hc, hx, hyo]; rfl) ?_)
            | with_reducible refine wp_region (seg_eval (by simp -dsimp -implicitDefEqProofs [avOp, ordAtOp, fx, tx, lx, fy, ty, ly, hd, hd', he, he', hy, hc, hx, hyo]; rfl) ?_)
            | with_reducible refine wp_drawsS (seg_eval (by simp -dsimp -implicitDefEqProofs [avOp, ordAtOp, fx, tx, lx, fy, ty, ly, hd, hd', he, he', hy, hc, hx, hyo]; rfl) ?_)
            | with_reducible refine wp_draws (seg_eval (by simp -dsimp -implicitDefEqProofs [avOp, ordAtOp, fx, tx, lx, fy, ty, ly, hd, hd', he, he', hy, hc, hx, hyo]; rfl) ?_)
            | with_reducible refine seg_fin ?_
            | with_reducible refine seg_pan ?_
            | with_reducible refine seg_both ?_ ?_
            | with_reducible refine seg_case (fun x h => ?_) (fun h => ?_)
            | with_reducible refine seg_gate (fun h => ?_) (fun h => ?_)
            | with_reducible refine seg_need ?_ ?_
            | with_reducible refine wp_assoc ?_ | with_reducible refine wp_skipS ?_ | with_reducible refine wp_retS ?_ | with_reducible refine wp_exitS ?_ | with_reducible refine wp_dropS (wp_eqT (by simp -dsimp -implicitDefEqProofs [avOp, ordAtOp, fx, tx, lx, fy, ty, ly, hd, hd', he, he', hy, hc, hx, hyo]; rfl) ?_) | with_reducible refine wp_sealS (by simp -dsimp -implicitDefEqProofs [avOp, ordAtOp, fx, tx, lx, fy, ty, ly, hd, hd', he, he', hy, hc, hx, hyo]; rfl) ?_ | with_reducible refine wp_seal (by simp -dsimp -implicitDefEqProofs [avOp, ordAtOp, fx, tx, lx, fy, ty, ly, hd, hd', he, he', hy, hc, hx, hyo]; rfl) ?_ | with_reducible refine wp_closeS (by simp -dsimp -implicitDefEqProofs [avOp, ordAtOp, fx, tx, lx, fy, ty, ly, hd, hd', he, he', hy, hc, hx, hyo]; rfl) ?_ | with_reducible refine wp_close (by simp -dsimp -implicitDefEqProofs [avOp, ordAtOp, fx, tx, lx, fy, ty, ly, hd, hd', he, he', hy, hc, hx, hyo]; rfl) ?_ | with_reducible refine wp_conc_out ?_ | with_reducible refine wp_open_out ?_ | with_reducible refine wp_pack_out ?_ | with_reducible refine wp_blockS ?_ | with_reducible refine wp_skip' ?_ | with_reducible refine wp_ret' ?_ | with_reducible refine wp_exit' ?_ | with_reducible refine wp_drop (wp_eqT (by simp -dsimp -implicitDefEqProofs [avOp, ordAtOp, fx, tx, lx, fy, ty, ly, hd, hd', he, he', hy, hc, hx, hyo]; rfl) ?_) | with_reducible refine wp_block' ?_
            | with_reducible refine wp_condVS (by simp -dsimp -implicitDefEqProofs [avOp, ordAtOp, fx, tx, lx, fy, ty, ly, hd, hd', he, he', hy, hc, hx, hyo]; rfl) ?_
            | with_reducible refine wp_condV (by simp -dsimp -implicitDefEqProofs [avOp, ordAtOp, fx, tx, lx, fy, ty, ly, hd, hd', he, he', hy, hc, hx, hyo]; rfl) ?_
            | with_reducible refine cond_t ?_ | with_reducible refine cond_f ?_ | with_reducible refine cond_v (fun h => ?_) (fun h => ?_)
            | with_reducible refine post_then ?_ | with_reducible refine post_thenE ?_ | with_reducible refine post_thenP ?_ | with_reducible refine post_blkP ?_ | with_reducible refine post_thenR ?_ | with_reducible refine post_blkN ?_ | with_reducible refine post_blkE ?_ | with_reducible refine post_blkF rfl ?_ | with_reducible refine post_blkR ?_
            | with_reducible refine seg_eval (by simp -dsimp -implicitDefEqProofs [avOp, ordAtOp, fx, tx, lx, fy, ty, ly, hd, hd', he, he', hy, hc, hx, hyo]; rfl) ?_
        all_goals first
          | omega
          | exact ⟨hyo, hx⟩
          | exact post_fin rfl rfl ⟨[], [], rfl, rfl, rfl, rfl⟩
          | trace_state
      · have he : decide (a < l.length) = false := by simp; omega
        have he' : decide ((a : Int) < (l.length : Int)) = false := by rw [decide_eq_false_iff_not]; omega
        rw [List.getElem?_eq_none (by omega)] at hisk
        simp only at hisk
        rw [hisk]
        repeat' first
            | with_reducible refine wp_regionS (seg_eval (by simp -dsimp -implicitDefEqProofs [avOp, fx, tx, lx, hd, hd', he, he']; rfl) ?_)
            | with_reducible refine wp_region (seg_eval (by simp -dsimp -implicitDefEqProofs [avOp, fx, tx, lx, hd, hd', he, he']; rfl) ?_)
            | with_reducible refine wp_drawsS (seg_eval (by simp -dsimp -implicitDefEqProofs [avOp, fx, tx, lx, hd, hd', he, he']; rfl) ?_)
            | with_reducible refine wp_draws (seg_eval (by simp -dsimp -implicitDefEqProofs [avOp, fx, tx, lx, hd, hd', he, he']; rfl) ?_)
            | with_reducible refine seg_fin ?_
            | with_reducible refine seg_pan ?_
            | with_reducible refine seg_both ?_ ?_
            | with_reducible refine seg_case (fun x h => ?_) (fun h => ?_)
            | with_reducible refine seg_gate (fun h => ?_) (fun h => ?_)
            | with_reducible refine seg_need ?_ ?_
            | with_reducible refine wp_assoc ?_ | with_reducible refine wp_skipS ?_ | with_reducible refine wp_retS ?_ | with_reducible refine wp_exitS ?_ | with_reducible refine wp_dropS (wp_eqT (by simp -dsimp -implicitDefEqProofs [avOp, fx, tx, lx, hd, hd', he, he']; rfl) ?_) | with_reducible refine wp_sealS (by simp -dsimp -implicitDefEqProofs [avOp, fx, tx, lx, hd, hd', he, he']; rfl) ?_ | with_reducible refine wp_seal (by simp -dsimp -implicitDefEqProofs [avOp, fx, tx, lx, hd, hd', he, he']; rfl) ?_ | with_reducible refine wp_closeS (by simp -dsimp -implicitDefEqProofs [avOp, fx, tx, lx, hd, hd', he, he']; rfl) ?_ | with_reducible refine wp_close (by simp -dsimp -implicitDefEqProofs [avOp, fx, tx, lx, hd, hd', he, he']; rfl) ?_ | with_reducible refine wp_conc_out ?_ | with_reducible refine wp_open_out ?_ | with_reducible refine wp_pack_out ?_ | with_reducible refine wp_blockS ?_ | with_reducible refine wp_skip' ?_ | with_reducible refine wp_ret' ?_ | with_reducible refine wp_exit' ?_ | with_reducible refine wp_drop (wp_eqT (by simp -dsimp -implicitDefEqProofs [avOp, fx, tx, lx, hd, hd', he, he']; rfl) ?_) | with_reducible refine wp_block' ?_
            | with_reducible refine wp_condVS (by simp -dsimp -implicitDefEqProofs [avOp, fx, tx, lx, hd, hd', he, he']; rfl) ?_
            | with_reducible refine wp_condV (by simp -dsimp -implicitDefEqProofs [avOp, fx, tx, lx, hd, hd', he, he']; rfl) ?_
            | with_reducible refine cond_t ?_ | with_reducible refine cond_f ?_ | with_reducible refine cond_v (fun h => ?_) (fun h => ?_)
            | with_reducible refine post_then ?_ | with_reducible refine post_thenE ?_ | with_reducible refine post_thenP ?_ | with_reducible refine post_blkP ?_ | with_reducible refine post_thenR ?_ | with_reducible refine post_blkN ?_ | with_reducible refine post_blkE ?_ | with_reducible refine post_blkF rfl ?_ | with_reducible refine post_blkR ?_
            | with_reducible refine seg_eval (by simp -dsimp -implicitDefEqProofs [avOp, fx, tx, lx, hd, hd', he, he']; rfl) ?_
        all_goals first
          | omega
          | exact post_fin rfl rfl ⟨[], [], rfl, rfl, rfl, rfl⟩
          | trace_state
end Go.Proofs.Ytkbgndebfcjojaa.Am
