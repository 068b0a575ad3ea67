/-
  AS LONG AS ONE MEMBER HAS NOT FLUSHED, NOTHING IS OVER.
-/
import Derived.Test.YtbponegjfccgfaaFPL
import Derived.Test.YtbponegjfccgfaaAmK
namespace Go.Proofs.Ytbponegjfccgfaa.Am
set_option linter.unusedSimpArgs false
set_option linter.unusedVariables false
open Go Go.Proofs
attribute [local irreducible] wpA
attribute [-simp] splice

/-- The variable of a flush: as it began, or as a call left it. -/
def flW (s : Int) (l : List Mk) (b : Blk) : Prop := (l = [] ∧ b = .var [.v (.int .u16 s), .v (.slice none 0 0)]) ∨ b = .var [.v (.int .u16 s), .fsl 17 (l.map avMk)]
noncomputable def spFlushLate : Spec := spc (X := Int × List Mk × List Nat) (fun p => ([.v (.int .u16 p.1), .fsl 17 (p.2.1.map avMk), .agg (vc p.2.2)], []))
  (fun p => 0 ≤ p.1 ∧ p.1 < 65536 ∧ (∀ y ∈ p.2.1, okMk y) ∧ p.2.1.length ≤ maxLen ∧ okV p.2.2) (fun _ => (.ret (.v (.bool true)), []))
theorem eqV_comm {a b : List Nat} (h : a.length = b.length) : eqV a b = eqV b a := by
  rw [Bool.eq_iff_iff, eqV_iff h, eqV_iff h.symm]; exact eq_comm

theorem bit_wrap16 (i : Nat) (hi : i < 256) : IntKind.wrap .u16 (1 * 2 ^ min i 16) = ((bitS i : Nat) : Int) := by
  unfold bitS
  by_cases h : i < 16
  · rw [if_pos h]
    have : ∀ k : Fin 16, IntKind.wrap .u16 (1 * 2 ^ min k.val 16) = ((2 ^ k.val : Nat) : Int) := by decide
    exact this ⟨i, h⟩
  · rw [if_neg h, Nat.min_eq_right (by omega)]; decide
set_option maxHeartbeats 40000000 in
theorem flushLate_ok : CallOk Try.prog 6 spFlushLate := by
  refine ok_6 (Env.put_ok [] (Env.put_ok [] (Env.put_ok [] (Env.put_ok [] (Env.none_ok _) alive13_ok) (CallOk.fixD [.agg [.no, .k 17]] putF_ok)) target_ok) overF_ok) spFlushLate (wb_spc ?_)
  rintro ⟨s, ms, u⟩ ⟨hs0, hs1, hms, hmx, hu⟩
  simp only at hs0 hs1 hms hmx hu ⊢
  obtain ⟨s, rfl⟩ := Int.eq_ofNat_of_zero_le hs0
  have hs : s < 65536 := by omega
  have hul := hu.1
  have hml : ms.length ≤ 9223372036854775807 := by have := hmx; unfold maxLen at this; omega
  unfold ac_6
  repeat' first
      | with_reducible refine wp_regionS (seg_eval (by simp -dsimp -implicitDefEqProofs [spAlive, hul]; rfl) ?_)
      | with_reducible refine wp_region (seg_eval (by simp -dsimp -implicitDefEqProofs [spAlive, hul]; rfl) ?_)
      | with_reducible refine wp_drawsS (seg_eval (by simp -dsimp -implicitDefEqProofs [spAlive, hul]; rfl) ?_)
      | with_reducible refine wp_draws (seg_eval (by simp -dsimp -implicitDefEqProofs [spAlive, hul]; rfl) ?_)
      | with_reducible refine seg_fin ?_
      | with_reducible refine seg_pan ?_
      | with_reducible refine seg_both ?_ ?_
      | with_reducible refine seg_case (fun x h => ?_) (fun h => ?_)
      | with_reducible refine seg_gate (fun h => ?_) (fun h => ?_)
      | with_reducible refine seg_need ?_ ?_
      | with_reducible refine wp_assoc ?_ | with_reducible refine wp_skipS ?_ | with_reducible refine wp_retS ?_ | with_reducible refine wp_exitS ?_ | with_reducible refine wp_dropS (wp_eqT (by simp -dsimp -implicitDefEqProofs [spAlive, hul]; rfl) ?_) | with_reducible refine wp_sealS (by simp -dsimp -implicitDefEqProofs [spAlive, hul]; rfl) ?_ | with_reducible refine wp_seal (by simp -dsimp -implicitDefEqProofs [spAlive, hul]; rfl) ?_ | with_reducible refine wp_closeS (by simp -dsimp -implicitDefEqProofs [spAlive, hul]; rfl) ?_ | with_reducible refine wp_close (by simp -dsimp -implicitDefEqProofs [spAlive, hul]; rfl) ?_ | with_reducible refine wp_conc_out ?_ | with_reducible refine wp_open_out ?_ | with_reducible refine wp_pack_out ?_ | with_reducible refine wp_blockS ?_ | with_reducible refine wp_skip' ?_ | with_reducible refine wp_ret' ?_ | with_reducible refine wp_exit' ?_ | with_reducible refine wp_drop (wp_eqT (by simp -dsimp -implicitDefEqProofs [spAlive, hul]; rfl) ?_) | with_reducible refine wp_block' ?_
      | with_reducible refine wp_condVS (by simp -dsimp -implicitDefEqProofs [spAlive, hul]; rfl) ?_
      | with_reducible refine wp_condV (by simp -dsimp -implicitDefEqProofs [spAlive, hul]; rfl) ?_
      | with_reducible refine cond_t ?_ | with_reducible refine cond_f ?_ | with_reducible refine cond_v (fun h => ?_) (fun h => ?_)
      | with_reducible refine post_then ?_ | with_reducible refine post_thenE ?_ | with_reducible refine post_thenP ?_ | with_reducible refine post_blkP ?_ | with_reducible refine post_thenR ?_ | with_reducible refine post_blkN ?_ | with_reducible refine post_blkE ?_ | with_reducible refine post_blkF rfl ?_ | with_reducible refine post_blkR ?_
      | with_reducible refine seg_eval (by simp -dsimp -implicitDefEqProofs [spAlive, hul]; rfl) ?_
  refine wp_loop' (fun j ts mm => ∃ (i hn : Nat) (l tk : List Mk) (ba : Blk), i + j = ms.length ∧ i ≤ 40 ∧ tk.length ≤ i ∧ GoodF s l tk ∧ HadF s hn l ∧ flW s l ba ∧
    ts = [(0, .v (.int .u16 s)), (1, .fsl 17 (ms.map avMk)), (5, .fptr (.agg (vc u)) 0), (7, .ptr 0 0 0), (8, .v (.int .u16 hn)), (9, .v (.int .i64 i))] ∧ mm = [ba]) ms.length ?_ ?_
  · exact ⟨[], [1], rfl, rfl, 0, 0, [], [], _, by omega, by omega, by simp, good_nil _, had_nil _, .inl ⟨rfl, rfl⟩, by simp, by simp⟩
  · rintro j ts mm ⟨i, hn, l, tk, ba, hi, hi40, htl, hg, hh, hba, rfl, rfl⟩
    have hok := good_ok hg
    have hll := good_len hg
    by_cases hlt : i < ms.length
    · have hd : decide ((i : Int) < (ms.length : Int)) = true := by rw [decide_eq_true_eq]; omega
      have hd2 : decide (i < ms.length) = true := by simp [hlt]
      by_cases h40 : i < 40
      · have hd4 : decide ((i : Int) < 40) = true := by rw [decide_eq_true_eq]; omega
        have hd5 : decide (i < 40) = true := by simp [h40]
        obtain ⟨x, hx⟩ : ∃ x, ms[i]? = some x := ⟨_, List.getElem?_eq_getElem (by omega)⟩
        have hm := hms x (List.mem_of_getElem? hx)
        have h64 : IntKind.wrap .i64 ((i : Int) + 1) = ((i + 1 : Nat) : Int) := by rw [IntWalk.i64_in _ (by omega)]; rfl
        obtain ⟨w, v⟩ := x
        have hvl : v.length = 16 := hm.2.2.1
        have hw0 : 0 ≤ w := hm.1
        have hw1 : w < 256 := hm.2.1
        obtain ⟨w, rfl⟩ := Int.eq_ofNat_of_zero_le hw0
        have hP := putFAt s l w v
        rw [if_pos ⟨hs0, hs1, by omega, hok, hm⟩] at hP
        simp only [Int.toNat_natCast] at hP
        have hnx : ∃ (h' : Nat) (tk' : List Mk), GoodF s (putF s l ⟨w, v⟩).1 tk' ∧ tk'.length ≤ i + 1 ∧ HadF s h' (putF s l ⟨w, v⟩).1 ∧ (((putF s l ⟨w, v⟩).2 = 0 ∧ h' = hn ||| bitS w) ∨ ((putF s l ⟨w, v⟩).2 ≠ 0 ∧ h' = hn)) := by
          rcases good_put hg hm with ⟨hz, hg'⟩ | ⟨hz, he⟩
          · exact ⟨_, _, hg', by simp; omega, had_put hs hh hz, .inl ⟨hz, rfl⟩⟩
          · rw [he]; exact ⟨hn, tk, hg, by omega, hh, .inr ⟨hz, rfl⟩⟩
        obtain ⟨h', tk', hg', htl', hh', hzz⟩ := hnx
        generalize (putF s l ⟨w, v⟩).1 = l' at *
        generalize (putF s l ⟨w, v⟩).2 = e at *
        have hok' := good_ok hg'
        have hll' := good_len hg'
        have hT := targetAt s l'
        rw [if_pos ⟨hs0, hs1, by omega, hok'⟩] at hT
        have hO := overFAt s l' u
        rw [if_pos ⟨hs0, hs1, by omega, hok', hu⟩] at hO
        simp only [Int.toNat_natCast] at hT hO
        have hto := (okV_target (s := s) hok').1
        have hal := had_all hs hg' hh'
        have hov : overF s l' u = ((targetF s l').2 && eqV u (targetF s l').1) := by unfold overF; rw [eqV_comm (by omega)]
        have heq := eqCells_16 hul hto
        rw [hov] at hO
        have hh1 := hh.1
        have hbw := bit_wrap w (by omega)
        have hor := or_nat hn (bitS w) hh.1 (bitS_lt w)
        generalize targetF s l' = t at *
        obtain ⟨t, b⟩ := t
        simp only at hT hto heq hO hal
        have hbx := bit_wrap16 w (by omega)
        have hbx2 : IntKind.wrap .u16 (2 ^ min w 16) = ((bitS w : Nat) : Int) := by rw [← hbx, Int.one_mul]
        have h3 : (h' = s ∧ s ≠ 0) ∨ (h' = s ∧ s = 0) ∨ h' ≠ s := by omega
        rcases hzz with ⟨rfl, hhe⟩ | ⟨hne, rfl⟩
        · rw [← hhe] at hor
          rcases h3 with ⟨q1, q2⟩ | ⟨q1, q2⟩ | q1
          · have f1 : ((h' : Int) == (s : Int)) = true := by simp [q1]
            have f2 : ((s : Int) != 0) = true := by simp [q2]
            have hb : b = true := by rw [hal]; simp [q1, q2]
            subst hb
            rcases hba with ⟨hl0, rfl⟩ | rfl
            all_goals (
              try (rw [hl0] at hP; simp only [List.map_nil] at hP)
              repeat' first
                  | with_reducible refine wp_regionS (seg_eval (by simp -dsimp -implicitDefEqProofs [zV_rest, avMk, cMk, hd, hd2, hd4, hd5, h64, hx, hvl, hul, hP, hT, hO, hto, heq, hbx2, hbx, hor, f1, f2]; rfl) ?_)
                  | with_reducible refine wp_region (seg_eval (by simp -dsimp -implicitDefEqProofs [zV_rest, avMk, cMk, hd, hd2, hd4, hd5, h64, hx, hvl, hul, hP, hT, hO, hto, heq, hbx2, hbx, hor, f1, f2]; rfl) ?_)
                  | with_reducible refine wp_drawsS (seg_eval (by simp -dsimp -implicitDefEqProofs [zV_rest, avMk, cMk, hd, hd2, hd4, hd5, h64, hx, hvl, hul, hP, hT, hO, hto, heq, hbx2, hbx, hor, f1, f2]; rfl) ?_)
                  | with_reducible refine wp_draws (seg_eval (by simp -dsimp -implicitDefEqProofs [zV_rest, avMk, cMk, hd, hd2, hd4, hd5, h64, hx, hvl, hul, hP, hT, hO, hto, heq, hbx2, hbx, hor, f1, f2]; rfl) ?_)
                  | with_reducible refine seg_fin ?_
                  | with_reducible refine seg_pan ?_
                  | with_reducible refine seg_both ?_ ?_
                  | with_reducible refine seg_case (fun x h => ?_) (fun h => ?_)
                  | with_reducible refine seg_gate (fun h => ?_) (fun h => ?_)
                  | with_reducible refine seg_need ?_ ?_
                  | with_reducible refine wp_assoc ?_ | with_reducible refine wp_skipS ?_ | with_reducible refine wp_retS ?_ | with_reducible refine wp_exitS ?_ | with_reducible refine wp_dropS (wp_eqT (by simp -dsimp -implicitDefEqProofs [zV_rest, avMk, cMk, hd, hd2, hd4, hd5, h64, hx, hvl, hul, hP, hT, hO, hto, heq, hbx2, hbx, hor, f1, f2]; rfl) ?_) | with_reducible refine wp_sealS (by simp -dsimp -implicitDefEqProofs [zV_rest, avMk, cMk, hd, hd2, hd4, hd5, h64, hx, hvl, hul, hP, hT, hO, hto, heq, hbx2, hbx, hor, f1, f2]; rfl) ?_ | with_reducible refine wp_seal (by simp -dsimp -implicitDefEqProofs [zV_rest, avMk, cMk, hd, hd2, hd4, hd5, h64, hx, hvl, hul, hP, hT, hO, hto, heq, hbx2, hbx, hor, f1, f2]; rfl) ?_ | with_reducible refine wp_closeS (by simp -dsimp -implicitDefEqProofs [zV_rest, avMk, cMk, hd, hd2, hd4, hd5, h64, hx, hvl, hul, hP, hT, hO, hto, heq, hbx2, hbx, hor, f1, f2]; rfl) ?_ | with_reducible refine wp_close (by simp -dsimp -implicitDefEqProofs [zV_rest, avMk, cMk, hd, hd2, hd4, hd5, h64, hx, hvl, hul, hP, hT, hO, hto, heq, hbx2, hbx, hor, f1, f2]; rfl) ?_ | with_reducible refine wp_conc_out ?_ | with_reducible refine wp_open_out ?_ | with_reducible refine wp_pack_out ?_ | with_reducible refine wp_blockS ?_ | with_reducible refine wp_skip' ?_ | with_reducible refine wp_ret' ?_ | with_reducible refine wp_exit' ?_ | with_reducible refine wp_drop (wp_eqT (by simp -dsimp -implicitDefEqProofs [zV_rest, avMk, cMk, hd, hd2, hd4, hd5, h64, hx, hvl, hul, hP, hT, hO, hto, heq, hbx2, hbx, hor, f1, f2]; rfl) ?_) | with_reducible refine wp_block' ?_
                  | with_reducible refine wp_condVS (by simp -dsimp -implicitDefEqProofs [zV_rest, avMk, cMk, hd, hd2, hd4, hd5, h64, hx, hvl, hul, hP, hT, hO, hto, heq, hbx2, hbx, hor, f1, f2]; rfl) ?_
                  | with_reducible refine wp_condV (by simp -dsimp -implicitDefEqProofs [zV_rest, avMk, cMk, hd, hd2, hd4, hd5, h64, hx, hvl, hul, hP, hT, hO, hto, heq, hbx2, hbx, hor, f1, f2]; rfl) ?_
                  | with_reducible refine cond_t ?_ | with_reducible refine cond_f ?_ | with_reducible refine cond_v (fun h => ?_) (fun h => ?_)
                  | with_reducible refine post_then ?_ | with_reducible refine post_thenE ?_ | with_reducible refine post_thenP ?_ | with_reducible refine post_blkP ?_ | with_reducible refine post_thenR ?_ | with_reducible refine post_blkN ?_ | with_reducible refine post_blkE ?_ | with_reducible refine post_blkF rfl ?_ | with_reducible refine post_blkR ?_
                  | with_reducible refine seg_eval (by simp -dsimp -implicitDefEqProofs [zV_rest, avMk, cMk, hd, hd2, hd4, hd5, h64, hx, hvl, hul, hP, hT, hO, hto, heq, hbx2, hbx, hor, f1, f2]; rfl) ?_
              all_goals first
                | omega
                | exact ⟨j - 1, by omega, [], [0], rfl, rfl, i + 1, h', l', tk', _, by omega, by omega, htl', hg', hh', .inr rfl, by simp, by simp⟩
                | trace_state)
          · have f1 : ((h' : Int) == (s : Int)) = true := by simp [q1]
            have f2 : ((s : Int) != 0) = false := by simp [q2]
            have hb : b = false := by rw [hal]; simp [q2]
            subst hb
            rcases hba with ⟨hl0, rfl⟩ | rfl
            all_goals (
              try (rw [hl0] at hP; simp only [List.map_nil] at hP)
              repeat' first
                  | with_reducible refine wp_regionS (seg_eval (by simp -dsimp -implicitDefEqProofs [zV_rest, avMk, cMk, hd, hd2, hd4, hd5, h64, hx, hvl, hul, hP, hT, hO, hto, heq, hbx2, hbx, hor, f1, f2]; rfl) ?_)
                  | with_reducible refine wp_region (seg_eval (by simp -dsimp -implicitDefEqProofs [zV_rest, avMk, cMk, hd, hd2, hd4, hd5, h64, hx, hvl, hul, hP, hT, hO, hto, heq, hbx2, hbx, hor, f1, f2]; rfl) ?_)
                  | with_reducible refine wp_drawsS (seg_eval (by simp -dsimp -implicitDefEqProofs [zV_rest, avMk, cMk, hd, hd2, hd4, hd5, h64, hx, hvl, hul, hP, hT, hO, hto, heq, hbx2, hbx, hor, f1, f2]; rfl) ?_)
                  | with_reducible refine wp_draws (seg_eval (by simp -dsimp -implicitDefEqProofs [zV_rest, avMk, cMk, hd, hd2, hd4, hd5, h64, hx, hvl, hul, hP, hT, hO, hto, heq, hbx2, hbx, hor, f1, f2]; rfl) ?_)
                  | with_reducible refine seg_fin ?_
                  | with_reducible refine seg_pan ?_
                  | with_reducible refine seg_both ?_ ?_
                  | with_reducible refine seg_case (fun x h => ?_) (fun h => ?_)
                  | with_reducible refine seg_gate (fun h => ?_) (fun h => ?_)
                  | with_reducible refine seg_need ?_ ?_
                  | with_reducible refine wp_assoc ?_ | with_reducible refine wp_skipS ?_ | with_reducible refine wp_retS ?_ | with_reducible refine wp_exitS ?_ | with_reducible refine wp_dropS (wp_eqT (by simp -dsimp -implicitDefEqProofs [zV_rest, avMk, cMk, hd, hd2, hd4, hd5, h64, hx, hvl, hul, hP, hT, hO, hto, heq, hbx2, hbx, hor, f1, f2]; rfl) ?_) | with_reducible refine wp_sealS (by simp -dsimp -implicitDefEqProofs [zV_rest, avMk, cMk, hd, hd2, hd4, hd5, h64, hx, hvl, hul, hP, hT, hO, hto, heq, hbx2, hbx, hor, f1, f2]; rfl) ?_ | with_reducible refine wp_seal (by simp -dsimp -implicitDefEqProofs [zV_rest, avMk, cMk, hd, hd2, hd4, hd5, h64, hx, hvl, hul, hP, hT, hO, hto, heq, hbx2, hbx, hor, f1, f2]; rfl) ?_ | with_reducible refine wp_closeS (by simp -dsimp -implicitDefEqProofs [zV_rest, avMk, cMk, hd, hd2, hd4, hd5, h64, hx, hvl, hul, hP, hT, hO, hto, heq, hbx2, hbx, hor, f1, f2]; rfl) ?_ | with_reducible refine wp_close (by simp -dsimp -implicitDefEqProofs [zV_rest, avMk, cMk, hd, hd2, hd4, hd5, h64, hx, hvl, hul, hP, hT, hO, hto, heq, hbx2, hbx, hor, f1, f2]; rfl) ?_ | with_reducible refine wp_conc_out ?_ | with_reducible refine wp_open_out ?_ | with_reducible refine wp_pack_out ?_ | with_reducible refine wp_blockS ?_ | with_reducible refine wp_skip' ?_ | with_reducible refine wp_ret' ?_ | with_reducible refine wp_exit' ?_ | with_reducible refine wp_drop (wp_eqT (by simp -dsimp -implicitDefEqProofs [zV_rest, avMk, cMk, hd, hd2, hd4, hd5, h64, hx, hvl, hul, hP, hT, hO, hto, heq, hbx2, hbx, hor, f1, f2]; rfl) ?_) | with_reducible refine wp_block' ?_
                  | with_reducible refine wp_condVS (by simp -dsimp -implicitDefEqProofs [zV_rest, avMk, cMk, hd, hd2, hd4, hd5, h64, hx, hvl, hul, hP, hT, hO, hto, heq, hbx2, hbx, hor, f1, f2]; rfl) ?_
                  | with_reducible refine wp_condV (by simp -dsimp -implicitDefEqProofs [zV_rest, avMk, cMk, hd, hd2, hd4, hd5, h64, hx, hvl, hul, hP, hT, hO, hto, heq, hbx2, hbx, hor, f1, f2]; rfl) ?_
                  | with_reducible refine cond_t ?_ | with_reducible refine cond_f ?_ | with_reducible refine cond_v (fun h => ?_) (fun h => ?_)
                  | with_reducible refine post_then ?_ | with_reducible refine post_thenE ?_ | with_reducible refine post_thenP ?_ | with_reducible refine post_blkP ?_ | with_reducible refine post_thenR ?_ | with_reducible refine post_blkN ?_ | with_reducible refine post_blkE ?_ | with_reducible refine post_blkF rfl ?_ | with_reducible refine post_blkR ?_
                  | with_reducible refine seg_eval (by simp -dsimp -implicitDefEqProofs [zV_rest, avMk, cMk, hd, hd2, hd4, hd5, h64, hx, hvl, hul, hP, hT, hO, hto, heq, hbx2, hbx, hor, f1, f2]; rfl) ?_
              all_goals first
                | omega
                | exact ⟨j - 1, by omega, [], [0], rfl, rfl, i + 1, h', l', tk', _, by omega, by omega, htl', hg', hh', .inr rfl, by simp, by simp⟩
                | trace_state)
          · have f1 : ((h' : Int) == (s : Int)) = false := by simp; omega
            have f2 : True := trivial
            have hb : b = false := by rw [hal]; simp [q1]
            subst hb
            rcases hba with ⟨hl0, rfl⟩ | rfl
            all_goals (
              try (rw [hl0] at hP; simp only [List.map_nil] at hP)
              repeat' first
                  | with_reducible refine wp_regionS (seg_eval (by simp -dsimp -implicitDefEqProofs [zV_rest, avMk, cMk, hd, hd2, hd4, hd5, h64, hx, hvl, hul, hP, hT, hO, hto, heq, hbx2, hbx, hor, f1, f2]; rfl) ?_)
                  | with_reducible refine wp_region (seg_eval (by simp -dsimp -implicitDefEqProofs [zV_rest, avMk, cMk, hd, hd2, hd4, hd5, h64, hx, hvl, hul, hP, hT, hO, hto, heq, hbx2, hbx, hor, f1, f2]; rfl) ?_)
                  | with_reducible refine wp_drawsS (seg_eval (by simp -dsimp -implicitDefEqProofs [zV_rest, avMk, cMk, hd, hd2, hd4, hd5, h64, hx, hvl, hul, hP, hT, hO, hto, heq, hbx2, hbx, hor, f1, f2]; rfl) ?_)
                  | with_reducible refine wp_draws (seg_eval (by simp -dsimp -implicitDefEqProofs [zV_rest, avMk, cMk, hd, hd2, hd4, hd5, h64, hx, hvl, hul, hP, hT, hO, hto, heq, hbx2, hbx, hor, f1, f2]; rfl) ?_)
                  | with_reducible refine seg_fin ?_
                  | with_reducible refine seg_pan ?_
                  | with_reducible refine seg_both ?_ ?_
                  | with_reducible refine seg_case (fun x h => ?_) (fun h => ?_)
                  | with_reducible refine seg_gate (fun h => ?_) (fun h => ?_)
                  | with_reducible refine seg_need ?_ ?_
                  | with_reducible refine wp_assoc ?_ | with_reducible refine wp_skipS ?_ | with_reducible refine wp_retS ?_ | with_reducible refine wp_exitS ?_ | with_reducible refine wp_dropS (wp_eqT (by simp -dsimp -implicitDefEqProofs [zV_rest, avMk, cMk, hd, hd2, hd4, hd5, h64, hx, hvl, hul, hP, hT, hO, hto, heq, hbx2, hbx, hor, f1, f2]; rfl) ?_) | with_reducible refine wp_sealS (by simp -dsimp -implicitDefEqProofs [zV_rest, avMk, cMk, hd, hd2, hd4, hd5, h64, hx, hvl, hul, hP, hT, hO, hto, heq, hbx2, hbx, hor, f1, f2]; rfl) ?_ | with_reducible refine wp_seal (by simp -dsimp -implicitDefEqProofs [zV_rest, avMk, cMk, hd, hd2, hd4, hd5, h64, hx, hvl, hul, hP, hT, hO, hto, heq, hbx2, hbx, hor, f1, f2]; rfl) ?_ | with_reducible refine wp_closeS (by simp -dsimp -implicitDefEqProofs [zV_rest, avMk, cMk, hd, hd2, hd4, hd5, h64, hx, hvl, hul, hP, hT, hO, hto, heq, hbx2, hbx, hor, f1, f2]; rfl) ?_ | with_reducible refine wp_close (by simp -dsimp -implicitDefEqProofs [zV_rest, avMk, cMk, hd, hd2, hd4, hd5, h64, hx, hvl, hul, hP, hT, hO, hto, heq, hbx2, hbx, hor, f1, f2]; rfl) ?_ | with_reducible refine wp_conc_out ?_ | with_reducible refine wp_open_out ?_ | with_reducible refine wp_pack_out ?_ | with_reducible refine wp_blockS ?_ | with_reducible refine wp_skip' ?_ | with_reducible refine wp_ret' ?_ | with_reducible refine wp_exit' ?_ | with_reducible refine wp_drop (wp_eqT (by simp -dsimp -implicitDefEqProofs [zV_rest, avMk, cMk, hd, hd2, hd4, hd5, h64, hx, hvl, hul, hP, hT, hO, hto, heq, hbx2, hbx, hor, f1, f2]; rfl) ?_) | with_reducible refine wp_block' ?_
                  | with_reducible refine wp_condVS (by simp -dsimp -implicitDefEqProofs [zV_rest, avMk, cMk, hd, hd2, hd4, hd5, h64, hx, hvl, hul, hP, hT, hO, hto, heq, hbx2, hbx, hor, f1, f2]; rfl) ?_
                  | with_reducible refine wp_condV (by simp -dsimp -implicitDefEqProofs [zV_rest, avMk, cMk, hd, hd2, hd4, hd5, h64, hx, hvl, hul, hP, hT, hO, hto, heq, hbx2, hbx, hor, f1, f2]; rfl) ?_
                  | with_reducible refine cond_t ?_ | with_reducible refine cond_f ?_ | with_reducible refine cond_v (fun h => ?_) (fun h => ?_)
                  | with_reducible refine post_then ?_ | with_reducible refine post_thenE ?_ | with_reducible refine post_thenP ?_ | with_reducible refine post_blkP ?_ | with_reducible refine post_thenR ?_ | with_reducible refine post_blkN ?_ | with_reducible refine post_blkE ?_ | with_reducible refine post_blkF rfl ?_ | with_reducible refine post_blkR ?_
                  | with_reducible refine seg_eval (by simp -dsimp -implicitDefEqProofs [zV_rest, avMk, cMk, hd, hd2, hd4, hd5, h64, hx, hvl, hul, hP, hT, hO, hto, heq, hbx2, hbx, hor, f1, f2]; rfl) ?_
              all_goals first
                | omega
                | exact ⟨j - 1, by omega, [], [0], rfl, rfl, i + 1, h', l', tk', _, by omega, by omega, htl', hg', hh', .inr rfl, by simp, by simp⟩
                | trace_state)
        · have hz2 : (e == (0 : Int)) = false := by simpa using hne
          rcases h3 with ⟨q1, q2⟩ | ⟨q1, q2⟩ | q1
          · have f1 : ((h' : Int) == (s : Int)) = true := by simp [q1]
            have f2 : ((s : Int) != 0) = true := by simp [q2]
            have hb : b = true := by rw [hal]; simp [q1, q2]
            subst hb
            rcases hba with ⟨hl0, rfl⟩ | rfl
            all_goals (
              try (rw [hl0] at hP; simp only [List.map_nil] at hP)
              repeat' first
                  | with_reducible refine wp_regionS (seg_eval (by simp -dsimp -implicitDefEqProofs [zV_rest, avMk, cMk, hd, hd2, hd4, hd5, h64, hx, hvl, hul, hP, hT, hO, hto, heq, hbx2, hbx, hor, f1, f2, hz2]; rfl) ?_)
                  | with_reducible refine wp_region (seg_eval (by simp -dsimp -implicitDefEqProofs [zV_rest, avMk, cMk, hd, hd2, hd4, hd5, h64, hx, hvl, hul, hP, hT, hO, hto, heq, hbx2, hbx, hor, f1, f2, hz2]; rfl) ?_)
                  | with_reducible refine wp_drawsS (seg_eval (by simp -dsimp -implicitDefEqProofs [zV_rest, avMk, cMk, hd, hd2, hd4, hd5, h64, hx, hvl, hul, hP, hT, hO, hto, heq, hbx2, hbx, hor, f1, f2, hz2]; rfl) ?_)
                  | with_reducible refine wp_draws (seg_eval (by simp -dsimp -implicitDefEqProofs [zV_rest, avMk, cMk, hd, hd2, hd4, hd5, h64, hx, hvl, hul, hP, hT, hO, hto, heq, hbx2, hbx, hor, f1, f2, hz2]; rfl) ?_)
                  | with_reducible refine seg_fin ?_
                  | with_reducible refine seg_pan ?_
                  | with_reducible refine seg_both ?_ ?_
                  | with_reducible refine seg_case (fun x h => ?_) (fun h => ?_)
                  | with_reducible refine seg_gate (fun h => ?_) (fun h => ?_)
                  | with_reducible refine seg_need ?_ ?_
                  | with_reducible refine wp_assoc ?_ | with_reducible refine wp_skipS ?_ | with_reducible refine wp_retS ?_ | with_reducible refine wp_exitS ?_ | with_reducible refine wp_dropS (wp_eqT (by simp -dsimp -implicitDefEqProofs [zV_rest, avMk, cMk, hd, hd2, hd4, hd5, h64, hx, hvl, hul, hP, hT, hO, hto, heq, hbx2, hbx, hor, f1, f2, hz2]; rfl) ?_) | with_reducible refine wp_sealS (by simp -dsimp -implicitDefEqProofs [zV_rest, avMk, cMk, hd, hd2, hd4, hd5, h64, hx, hvl, hul, hP, hT, hO, hto, heq, hbx2, hbx, hor, f1, f2, hz2]; rfl) ?_ | with_reducible refine wp_seal (by simp -dsimp -implicitDefEqProofs [zV_rest, avMk, cMk, hd, hd2, hd4, hd5, h64, hx, hvl, hul, hP, hT, hO, hto, heq, hbx2, hbx, hor, f1, f2, hz2]; rfl) ?_ | with_reducible refine wp_closeS (by simp -dsimp -implicitDefEqProofs [zV_rest, avMk, cMk, hd, hd2, hd4, hd5, h64, hx, hvl, hul, hP, hT, hO, hto, heq, hbx2, hbx, hor, f1, f2, hz2]; rfl) ?_ | with_reducible refine wp_close (by simp -dsimp -implicitDefEqProofs [zV_rest, avMk, cMk, hd, hd2, hd4, hd5, h64, hx, hvl, hul, hP, hT, hO, hto, heq, hbx2, hbx, hor, f1, f2, hz2]; rfl) ?_ | with_reducible refine wp_conc_out ?_ | with_reducible refine wp_open_out ?_ | with_reducible refine wp_pack_out ?_ | with_reducible refine wp_blockS ?_ | with_reducible refine wp_skip' ?_ | with_reducible refine wp_ret' ?_ | with_reducible refine wp_exit' ?_ | with_reducible refine wp_drop (wp_eqT (by simp -dsimp -implicitDefEqProofs [zV_rest, avMk, cMk, hd, hd2, hd4, hd5, h64, hx, hvl, hul, hP, hT, hO, hto, heq, hbx2, hbx, hor, f1, f2, hz2]; rfl) ?_) | with_reducible refine wp_block' ?_
                  | with_reducible refine wp_condVS (by simp -dsimp -implicitDefEqProofs [zV_rest, avMk, cMk, hd, hd2, hd4, hd5, h64, hx, hvl, hul, hP, hT, hO, hto, heq, hbx2, hbx, hor, f1, f2, hz2]; rfl) ?_
                  | with_reducible refine wp_condV (by simp -dsimp -implicitDefEqProofs [zV_rest, avMk, cMk, hd, hd2, hd4, hd5, h64, hx, hvl, hul, hP, hT, hO, hto, heq, hbx2, hbx, hor, f1, f2, hz2]; rfl) ?_
                  | with_reducible refine cond_t ?_ | with_reducible refine cond_f ?_ | with_reducible refine cond_v (fun h => ?_) (fun h => ?_)
                  | with_reducible refine post_then ?_ | with_reducible refine post_thenE ?_ | with_reducible refine post_thenP ?_ | with_reducible refine post_blkP ?_ | with_reducible refine post_thenR ?_ | with_reducible refine post_blkN ?_ | with_reducible refine post_blkE ?_ | with_reducible refine post_blkF rfl ?_ | with_reducible refine post_blkR ?_
                  | with_reducible refine seg_eval (by simp -dsimp -implicitDefEqProofs [zV_rest, avMk, cMk, hd, hd2, hd4, hd5, h64, hx, hvl, hul, hP, hT, hO, hto, heq, hbx2, hbx, hor, f1, f2, hz2]; rfl) ?_
              all_goals first
                | omega
                | exact ⟨j - 1, by omega, [], [0], rfl, rfl, i + 1, h', l', tk', _, by omega, by omega, htl', hg', hh', .inr rfl, by simp, by simp⟩
                | trace_state)
          · have f1 : ((h' : Int) == (s : Int)) = true := by simp [q1]
            have f2 : ((s : Int) != 0) = false := by simp [q2]
            have hb : b = false := by rw [hal]; simp [q2]
            subst hb
            rcases hba with ⟨hl0, rfl⟩ | rfl
            all_goals (
              try (rw [hl0] at hP; simp only [List.map_nil] at hP)
              repeat' first
                  | with_reducible refine wp_regionS (seg_eval (by simp -dsimp -implicitDefEqProofs [zV_rest, avMk, cMk, hd, hd2, hd4, hd5, h64, hx, hvl, hul, hP, hT, hO, hto, heq, hbx2, hbx, hor, f1, f2, hz2]; rfl) ?_)
                  | with_reducible refine wp_region (seg_eval (by simp -dsimp -implicitDefEqProofs [zV_rest, avMk, cMk, hd, hd2, hd4, hd5, h64, hx, hvl, hul, hP, hT, hO, hto, heq, hbx2, hbx, hor, f1, f2, hz2]; rfl) ?_)
                  | with_reducible refine wp_drawsS (seg_eval (by simp -dsimp -implicitDefEqProofs [zV_rest, avMk, cMk, hd, hd2, hd4, hd5, h64, hx, hvl, hul, hP, hT, hO, hto, heq, hbx2, hbx, hor, f1, f2, hz2]; rfl) ?_)
                  | with_reducible refine wp_draws (seg_eval (by simp -dsimp -implicitDefEqProofs [zV_rest, avMk, cMk, hd, hd2, hd4, hd5, h64, hx, hvl, hul, hP, hT, hO, hto, heq, hbx2, hbx, hor, f1, f2, hz2]; rfl) ?_)
                  | with_reducible refine seg_fin ?_
                  | with_reducible refine seg_pan ?_
                  | with_reducible refine seg_both ?_ ?_
                  | with_reducible refine seg_case (fun x h => ?_) (fun h => ?_)
                  | with_reducible refine seg_gate (fun h => ?_) (fun h => ?_)
                  | with_reducible refine seg_need ?_ ?_
                  | with_reducible refine wp_assoc ?_ | with_reducible refine wp_skipS ?_ | with_reducible refine wp_retS ?_ | with_reducible refine wp_exitS ?_ | with_reducible refine wp_dropS (wp_eqT (by simp -dsimp -implicitDefEqProofs [zV_rest, avMk, cMk, hd, hd2, hd4, hd5, h64, hx, hvl, hul, hP, hT, hO, hto, heq, hbx2, hbx, hor, f1, f2, hz2]; rfl) ?_) | with_reducible refine wp_sealS (by simp -dsimp -implicitDefEqProofs [zV_rest, avMk, cMk, hd, hd2, hd4, hd5, h64, hx, hvl, hul, hP, hT, hO, hto, heq, hbx2, hbx, hor, f1, f2, hz2]; rfl) ?_ | with_reducible refine wp_seal (by simp -dsimp -implicitDefEqProofs [zV_rest, avMk, cMk, hd, hd2, hd4, hd5, h64, hx, hvl, hul, hP, hT, hO, hto, heq, hbx2, hbx, hor, f1, f2, hz2]; rfl) ?_ | with_reducible refine wp_closeS (by simp -dsimp -implicitDefEqProofs [zV_rest, avMk, cMk, hd, hd2, hd4, hd5, h64, hx, hvl, hul, hP, hT, hO, hto, heq, hbx2, hbx, hor, f1, f2, hz2]; rfl) ?_ | with_reducible refine wp_close (by simp -dsimp -implicitDefEqProofs [zV_rest, avMk, cMk, hd, hd2, hd4, hd5, h64, hx, hvl, hul, hP, hT, hO, hto, heq, hbx2, hbx, hor, f1, f2, hz2]; rfl) ?_ | with_reducible refine wp_conc_out ?_ | with_reducible refine wp_open_out ?_ | with_reducible refine wp_pack_out ?_ | with_reducible refine wp_blockS ?_ | with_reducible refine wp_skip' ?_ | with_reducible refine wp_ret' ?_ | with_reducible refine wp_exit' ?_ | with_reducible refine wp_drop (wp_eqT (by simp -dsimp -implicitDefEqProofs [zV_rest, avMk, cMk, hd, hd2, hd4, hd5, h64, hx, hvl, hul, hP, hT, hO, hto, heq, hbx2, hbx, hor, f1, f2, hz2]; rfl) ?_) | with_reducible refine wp_block' ?_
                  | with_reducible refine wp_condVS (by simp -dsimp -implicitDefEqProofs [zV_rest, avMk, cMk, hd, hd2, hd4, hd5, h64, hx, hvl, hul, hP, hT, hO, hto, heq, hbx2, hbx, hor, f1, f2, hz2]; rfl) ?_
                  | with_reducible refine wp_condV (by simp -dsimp -implicitDefEqProofs [zV_rest, avMk, cMk, hd, hd2, hd4, hd5, h64, hx, hvl, hul, hP, hT, hO, hto, heq, hbx2, hbx, hor, f1, f2, hz2]; rfl) ?_
                  | with_reducible refine cond_t ?_ | with_reducible refine cond_f ?_ | with_reducible refine cond_v (fun h => ?_) (fun h => ?_)
                  | with_reducible refine post_then ?_ | with_reducible refine post_thenE ?_ | with_reducible refine post_thenP ?_ | with_reducible refine post_blkP ?_ | with_reducible refine post_thenR ?_ | with_reducible refine post_blkN ?_ | with_reducible refine post_blkE ?_ | with_reducible refine post_blkF rfl ?_ | with_reducible refine post_blkR ?_
                  | with_reducible refine seg_eval (by simp -dsimp -implicitDefEqProofs [zV_rest, avMk, cMk, hd, hd2, hd4, hd5, h64, hx, hvl, hul, hP, hT, hO, hto, heq, hbx2, hbx, hor, f1, f2, hz2]; rfl) ?_
              all_goals first
                | omega
                | exact ⟨j - 1, by omega, [], [0], rfl, rfl, i + 1, h', l', tk', _, by omega, by omega, htl', hg', hh', .inr rfl, by simp, by simp⟩
                | trace_state)
          · have f1 : ((h' : Int) == (s : Int)) = false := by simp; omega
            have f2 : True := trivial
            have hb : b = false := by rw [hal]; simp [q1]
            subst hb
            rcases hba with ⟨hl0, rfl⟩ | rfl
            all_goals (
              try (rw [hl0] at hP; simp only [List.map_nil] at hP)
              repeat' first
                  | with_reducible refine wp_regionS (seg_eval (by simp -dsimp -implicitDefEqProofs [zV_rest, avMk, cMk, hd, hd2, hd4, hd5, h64, hx, hvl, hul, hP, hT, hO, hto, heq, hbx2, hbx, hor, f1, f2, hz2]; rfl) ?_)
                  | with_reducible refine wp_region (seg_eval (by simp -dsimp -implicitDefEqProofs [zV_rest, avMk, cMk, hd, hd2, hd4, hd5, h64, hx, hvl, hul, hP, hT, hO, hto, heq, hbx2, hbx, hor, f1, f2, hz2]; rfl) ?_)
                  | with_reducible refine wp_drawsS (seg_eval (by simp -dsimp -implicitDefEqProofs [zV_rest, avMk, cMk, hd, hd2, hd4, hd5, h64, hx, hvl, hul, hP, hT, hO, hto, heq, hbx2, hbx, hor, f1, f2, hz2]; rfl) ?_)
                  | with_reducible refine wp_draws (seg_eval (by simp -dsimp -implicitDefEqProofs [zV_rest, avMk, cMk, hd, hd2, hd4, hd5, h64, hx, hvl, hul, hP, hT, hO, hto, heq, hbx2, hbx, hor, f1, f2, hz2]; rfl) ?_)
                  | with_reducible refine seg_fin ?_
                  | with_reducible refine seg_pan ?_
                  | with_reducible refine seg_both ?_ ?_
                  | with_reducible refine seg_case (fun x h => ?_) (fun h => ?_)
                  | with_reducible refine seg_gate (fun h => ?_) (fun h => ?_)
                  | with_reducible refine seg_need ?_ ?_
                  | with_reducible refine wp_assoc ?_ | with_reducible refine wp_skipS ?_ | with_reducible refine wp_retS ?_ | with_reducible refine wp_exitS ?_ | with_reducible refine wp_dropS (wp_eqT (by simp -dsimp -implicitDefEqProofs [zV_rest, avMk, cMk, hd, hd2, hd4, hd5, h64, hx, hvl, hul, hP, hT, hO, hto, heq, hbx2, hbx, hor, f1, f2, hz2]; rfl) ?_) | with_reducible refine wp_sealS (by simp -dsimp -implicitDefEqProofs [zV_rest, avMk, cMk, hd, hd2, hd4, hd5, h64, hx, hvl, hul, hP, hT, hO, hto, heq, hbx2, hbx, hor, f1, f2, hz2]; rfl) ?_ | with_reducible refine wp_seal (by simp -dsimp -implicitDefEqProofs [zV_rest, avMk, cMk, hd, hd2, hd4, hd5, h64, hx, hvl, hul, hP, hT, hO, hto, heq, hbx2, hbx, hor, f1, f2, hz2]; rfl) ?_ | with_reducible refine wp_closeS (by simp -dsimp -implicitDefEqProofs [zV_rest, avMk, cMk, hd, hd2, hd4, hd5, h64, hx, hvl, hul, hP, hT, hO, hto, heq, hbx2, hbx, hor, f1, f2, hz2]; rfl) ?_ | with_reducible refine wp_close (by simp -dsimp -implicitDefEqProofs [zV_rest, avMk, cMk, hd, hd2, hd4, hd5, h64, hx, hvl, hul, hP, hT, hO, hto, heq, hbx2, hbx, hor, f1, f2, hz2]; rfl) ?_ | with_reducible refine wp_conc_out ?_ | with_reducible refine wp_open_out ?_ | with_reducible refine wp_pack_out ?_ | with_reducible refine wp_blockS ?_ | with_reducible refine wp_skip' ?_ | with_reducible refine wp_ret' ?_ | with_reducible refine wp_exit' ?_ | with_reducible refine wp_drop (wp_eqT (by simp -dsimp -implicitDefEqProofs [zV_rest, avMk, cMk, hd, hd2, hd4, hd5, h64, hx, hvl, hul, hP, hT, hO, hto, heq, hbx2, hbx, hor, f1, f2, hz2]; rfl) ?_) | with_reducible refine wp_block' ?_
                  | with_reducible refine wp_condVS (by simp -dsimp -implicitDefEqProofs [zV_rest, avMk, cMk, hd, hd2, hd4, hd5, h64, hx, hvl, hul, hP, hT, hO, hto, heq, hbx2, hbx, hor, f1, f2, hz2]; rfl) ?_
                  | with_reducible refine wp_condV (by simp -dsimp -implicitDefEqProofs [zV_rest, avMk, cMk, hd, hd2, hd4, hd5, h64, hx, hvl, hul, hP, hT, hO, hto, heq, hbx2, hbx, hor, f1, f2, hz2]; rfl) ?_
                  | with_reducible refine cond_t ?_ | with_reducible refine cond_f ?_ | with_reducible refine cond_v (fun h => ?_) (fun h => ?_)
                  | with_reducible refine post_then ?_ | with_reducible refine post_thenE ?_ | with_reducible refine post_thenP ?_ | with_reducible refine post_blkP ?_ | with_reducible refine post_thenR ?_ | with_reducible refine post_blkN ?_ | with_reducible refine post_blkE ?_ | with_reducible refine post_blkF rfl ?_ | with_reducible refine post_blkR ?_
                  | with_reducible refine seg_eval (by simp -dsimp -implicitDefEqProofs [zV_rest, avMk, cMk, hd, hd2, hd4, hd5, h64, hx, hvl, hul, hP, hT, hO, hto, heq, hbx2, hbx, hor, f1, f2, hz2]; rfl) ?_
              all_goals first
                | omega
                | exact ⟨j - 1, by omega, [], [0], rfl, rfl, i + 1, h', l', tk', _, by omega, by omega, htl', hg', hh', .inr rfl, by simp, by simp⟩
                | trace_state)
      · have hd4 : decide ((i : Int) < 40) = false := by rw [decide_eq_false_iff_not]; omega
        have hd5 : decide (i < 40) = false := by simp; omega
        repeat' first
            | with_reducible refine wp_regionS (seg_eval (by simp -dsimp -implicitDefEqProofs [hd, hd2, hd4, hd5]; rfl) ?_)
            | with_reducible refine wp_region (seg_eval (by simp -dsimp -implicitDefEqProofs [hd, hd2, hd4, hd5]; rfl) ?_)
            | with_reducible refine wp_drawsS (seg_eval (by simp -dsimp -implicitDefEqProofs [hd, hd2, hd4, hd5]; rfl) ?_)
            | with_reducible refine wp_draws (seg_eval (by simp -dsimp -implicitDefEqProofs [hd, hd2, hd4, hd5]; rfl) ?_)
            | with_reducible refine seg_fin ?_
            | with_reducible refine seg_pan ?_
            | with_reducible refine seg_both ?_ ?_
            | with_reducible refine seg_case (fun x h => ?_) (fun h => ?_)
            | with_reducible refine seg_gate (fun h => ?_) (fun h => ?_)
            | with_reducible refine seg_need ?_ ?_
            | with_reducible refine wp_assoc ?_ | with_reducible refine wp_skipS ?_ | with_reducible refine wp_retS ?_ | with_reducible refine wp_exitS ?_ | with_reducible refine wp_dropS (wp_eqT (by simp -dsimp -implicitDefEqProofs [hd, hd2, hd4, hd5]; rfl) ?_) | with_reducible refine wp_sealS (by simp -dsimp -implicitDefEqProofs [hd, hd2, hd4, hd5]; rfl) ?_ | with_reducible refine wp_seal (by simp -dsimp -implicitDefEqProofs [hd, hd2, hd4, hd5]; rfl) ?_ | with_reducible refine wp_closeS (by simp -dsimp -implicitDefEqProofs [hd, hd2, hd4, hd5]; rfl) ?_ | with_reducible refine wp_close (by simp -dsimp -implicitDefEqProofs [hd, hd2, hd4, hd5]; rfl) ?_ | with_reducible refine wp_conc_out ?_ | with_reducible refine wp_open_out ?_ | with_reducible refine wp_pack_out ?_ | with_reducible refine wp_blockS ?_ | with_reducible refine wp_skip' ?_ | with_reducible refine wp_ret' ?_ | with_reducible refine wp_exit' ?_ | with_reducible refine wp_drop (wp_eqT (by simp -dsimp -implicitDefEqProofs [hd, hd2, hd4, hd5]; rfl) ?_) | with_reducible refine wp_block' ?_
            | with_reducible refine wp_condVS (by simp -dsimp -implicitDefEqProofs [hd, hd2, hd4, hd5]; rfl) ?_
            | with_reducible refine wp_condV (by simp -dsimp -implicitDefEqProofs [hd, hd2, hd4, hd5]; rfl) ?_
            | with_reducible refine cond_t ?_ | with_reducible refine cond_f ?_ | with_reducible refine cond_v (fun h => ?_) (fun h => ?_)
            | with_reducible refine post_then ?_ | with_reducible refine post_thenE ?_ | with_reducible refine post_thenP ?_ | with_reducible refine post_blkP ?_ | with_reducible refine post_thenR ?_ | with_reducible refine post_blkN ?_ | with_reducible refine post_blkE ?_ | with_reducible refine post_blkF rfl ?_ | with_reducible refine post_blkR ?_
            | with_reducible refine seg_eval (by simp -dsimp -implicitDefEqProofs [hd, hd2, hd4, hd5]; rfl) ?_
        all_goals first
          | omega
          | exact post_fin rfl rfl ⟨[], [], rfl, rfl, rfl, rfl⟩
          | trace_state
    · have hd : decide ((i : Int) < (ms.length : Int)) = false := by rw [decide_eq_false_iff_not]; omega
      have hd2 : decide (i < ms.length) = false := by simp [hlt]
      repeat' first
          | with_reducible refine wp_regionS (seg_eval (by simp -dsimp -implicitDefEqProofs [hd, hd2]; rfl) ?_)
          | with_reducible refine wp_region (seg_eval (by simp -dsimp -implicitDefEqProofs [hd, hd2]; rfl) ?_)
          | with_reducible refine wp_drawsS (seg_eval (by simp -dsimp -implicitDefEqProofs [hd, hd2]; rfl) ?_)
          | with_reducible refine wp_draws (seg_eval (by simp -dsimp -implicitDefEqProofs [hd, hd2]; rfl) ?_)
          | with_reducible refine seg_fin ?_
          | with_reducible refine seg_pan ?_
          | with_reducible refine seg_both ?_ ?_
          | with_reducible refine seg_case (fun x h => ?_) (fun h => ?_)
          | with_reducible refine seg_gate (fun h => ?_) (fun h => ?_)
          | with_reducible refine seg_need ?_ ?_
          | with_reducible refine wp_assoc ?_ | with_reducible refine wp_skipS ?_ | with_reducible refine wp_retS ?_ | with_reducible refine wp_exitS ?_ | with_reducible refine wp_dropS (wp_eqT (by simp -dsimp -implicitDefEqProofs [hd, hd2]; rfl) ?_) | with_reducible refine wp_sealS (by simp -dsimp -implicitDefEqProofs [hd, hd2]; rfl) ?_ | with_reducible refine wp_seal (by simp -dsimp -implicitDefEqProofs [hd, hd2]; rfl) ?_ | with_reducible refine wp_closeS (by simp -dsimp -implicitDefEqProofs [hd, hd2]; rfl) ?_ | with_reducible refine wp_close (by simp -dsimp -implicitDefEqProofs [hd, hd2]; rfl) ?_ | with_reducible refine wp_conc_out ?_ | with_reducible refine wp_open_out ?_ | with_reducible refine wp_pack_out ?_ | with_reducible refine wp_blockS ?_ | with_reducible refine wp_skip' ?_ | with_reducible refine wp_ret' ?_ | with_reducible refine wp_exit' ?_ | with_reducible refine wp_drop (wp_eqT (by simp -dsimp -implicitDefEqProofs [hd, hd2]; rfl) ?_) | with_reducible refine wp_block' ?_
          | with_reducible refine wp_condVS (by simp -dsimp -implicitDefEqProofs [hd, hd2]; rfl) ?_
          | with_reducible refine wp_condV (by simp -dsimp -implicitDefEqProofs [hd, hd2]; rfl) ?_
          | with_reducible refine cond_t ?_ | with_reducible refine cond_f ?_ | with_reducible refine cond_v (fun h => ?_) (fun h => ?_)
          | with_reducible refine post_then ?_ | with_reducible refine post_thenE ?_ | with_reducible refine post_thenP ?_ | with_reducible refine post_blkP ?_ | with_reducible refine post_thenR ?_ | with_reducible refine post_blkN ?_ | with_reducible refine post_blkE ?_ | with_reducible refine post_blkF rfl ?_ | with_reducible refine post_blkR ?_
          | with_reducible refine seg_eval (by simp -dsimp -implicitDefEqProofs [hd, hd2]; rfl) ?_
      all_goals first
        | omega
        | exact post_fin rfl rfl ⟨[], [], rfl, rfl, rfl, rfl⟩
        | trace_state
end Go.Proofs.Ytbponegjfccgfaa.Am
