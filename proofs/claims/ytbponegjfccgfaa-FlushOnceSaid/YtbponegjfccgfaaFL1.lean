/-
  WHAT ANY MARK DOES TO ANY FLUSH: THE SAME ON BOTH SIDES.
-/
import Derived.Test.YtbponegjfccgfaaFL0
namespace Go.Proofs.Ytbponegjfccgfaa.Am
set_option linter.unusedSimpArgs false
set_option linter.unusedVariables false
open Go Go.Proofs
attribute [local irreducible] wpA
attribute [-simp] splice

theorem putF_mem {s : Nat} {l : List Mk} {m y : Mk} (h : y ∈ (putF s l m).1) : y = m ∨ y ∈ l := by
  unfold putF at h
  split at h
  · exact .inr h
  · split at h
    · exact .inr h
    · split at h
      · exact .inr h
      · split at h
        · exact .inr h
        · exact mem_insK.1 h
theorem putF_len (s : Nat) (l : List Mk) (m : Mk) : (putF s l m).1.length ≤ l.length + 1 := by
  unfold putF
  split
  · simp
  · split
    · simp
    · split
      · simp
      · split
        · simp
        · rw [insK_length]; exact Nat.le_refl _
theorem putF_yes {s : Nat} {l : List Mk} {m : Mk} (h : (putF s l m).2 = 0) : (putF s l m).1 = insK keyMk m l := by
  obtain ⟨h1, h2, h3, h4⟩ := putF_zero.1 h
  unfold putF; rw [h1, h2, h3, h4]; rfl
theorem putF_not {s : Nat} {l : List Mk} {m : Mk} (h : (putF s l m).2 ≠ 0) : (putF s l m).1 = l := by
  unfold putF at h ⊢
  split
  · rfl
  · split
    · rfl
    · split
      · rfl
      · split
        · rfl
        · simp_all
noncomputable def spFlushPuts : Spec := spc (X := Int × List Mk × Mk × List Nat) (fun p => ([.agg [.v (.int .u16 p.1), .fsl 17 (p.2.1.map avMk)], avMk p.2.2.1, .agg (vc p.2.2.2)], []))
  (fun p => 0 ≤ p.1 ∧ p.1 < 65536 ∧ (∀ y ∈ p.2.1, okMk y) ∧ okMk p.2.2.1 ∧ okV p.2.2.2) (fun _ => (.ret (.v (.bool true)), []))

set_option maxHeartbeats 16000000 in
theorem flushPuts_ok : CallOk Try.prog 3 spFlushPuts := by
  refine ok_3 (Env.put_ok [] (Env.put_ok [] (Env.put_ok [] (Env.put_ok [] (Env.put_ok [] (Env.put_ok [] (Env.put_ok [] (Env.put_ok [] (Env.put_ok [] (Env.put_ok [] (Env.none_ok _) alive13_ok) theirsF_ok) oursF_ok) putF_ok) putFR_ok) target_ok) targetR_ok) sameF_ok) overF_ok) overFR_ok) spFlushPuts (wb_spc ?_)
  rintro ⟨s, l, ⟨w, v⟩, u⟩ ⟨hs0, hs1, hok, hm, hu⟩
  simp only at hs0 hs1 hok hm hu ⊢
  have hvl : v.length = 16 := hm.2.2.1
  have hul := hu.1
  unfold ac_3
  simp only [avMk, cMk]
  have eav : (fun m => AV.agg (cMk m)) = avMk := rfl
  by_cases h40 : 40 < l.length
  · have c1 : decide ((40 : Int) < (l.length : Int)) = true := by rw [decide_eq_true_eq]; omega
    have c1n : decide (40 < l.length) = true := by simp [h40]
    repeat' first
        | with_reducible refine wp_regionS (seg_eval (by simp -dsimp -implicitDefEqProofs [zV_rest, spAlive, c1, c1n, hvl, hul]; rfl) ?_)
        | with_reducible refine wp_region (seg_eval (by simp -dsimp -implicitDefEqProofs [zV_rest, spAlive, c1, c1n, hvl, hul]; rfl) ?_)
        | with_reducible refine wp_drawsS (seg_eval (by simp -dsimp -implicitDefEqProofs [zV_rest, spAlive, c1, c1n, hvl, hul]; rfl) ?_)
        | with_reducible refine wp_draws (seg_eval (by simp -dsimp -implicitDefEqProofs [zV_rest, spAlive, c1, c1n, hvl, hul]; rfl) ?_)
        | with_reducible refine seg_fin ?_
        | with_reducible refine seg_pan ?_
        | with_reducible refine seg_both ?_ ?_
        | with_reducible refine seg_case (fun x h => ?_) (fun h => ?_)
        | with_reducible refine seg_gate (fun h => ?_) (fun h => ?_)
        | with_reducible refine seg_need ?_ ?_
        | with_reducible refine wp_assoc ?_ | with_reducible refine wp_skipS ?_ | with_reducible refine wp_retS ?_ | with_reducible refine wp_exitS ?_ | with_reducible refine wp_dropS (wp_eqT (by simp -dsimp -implicitDefEqProofs [zV_rest, spAlive, c1, c1n, hvl, hul]; rfl) ?_) | with_reducible refine wp_sealS (by simp -dsimp -implicitDefEqProofs [zV_rest, spAlive, c1, c1n, hvl, hul]; rfl) ?_ | with_reducible refine wp_seal (by simp -dsimp -implicitDefEqProofs [zV_rest, spAlive, c1, c1n, hvl, hul]; rfl) ?_ | with_reducible refine wp_closeS (by simp -dsimp -implicitDefEqProofs [zV_rest, spAlive, c1, c1n, hvl, hul]; rfl) ?_ | with_reducible refine wp_close (by simp -dsimp -implicitDefEqProofs [zV_rest, spAlive, c1, c1n, hvl, hul]; rfl) ?_ | with_reducible refine wp_conc_out ?_ | with_reducible refine wp_open_out ?_ | with_reducible refine wp_pack_out ?_ | with_reducible refine wp_blockS ?_ | with_reducible refine wp_skip' ?_ | with_reducible refine wp_ret' ?_ | with_reducible refine wp_exit' ?_ | with_reducible refine wp_drop (wp_eqT (by simp -dsimp -implicitDefEqProofs [zV_rest, spAlive, c1, c1n, hvl, hul]; rfl) ?_) | with_reducible refine wp_block' ?_
        | with_reducible refine wp_condVS (by simp -dsimp -implicitDefEqProofs [zV_rest, spAlive, c1, c1n, hvl, hul]; rfl) ?_
        | with_reducible refine wp_condV (by simp -dsimp -implicitDefEqProofs [zV_rest, spAlive, c1, c1n, hvl, hul]; rfl) ?_
        | with_reducible refine cond_t ?_ | with_reducible refine cond_f ?_ | with_reducible refine cond_v (fun h => ?_) (fun h => ?_)
        | with_reducible refine post_then ?_ | with_reducible refine post_thenE ?_ | with_reducible refine post_thenP ?_ | with_reducible refine post_blkP ?_ | with_reducible refine post_thenR ?_ | with_reducible refine post_blkN ?_ | with_reducible refine post_blkE ?_ | with_reducible refine post_blkF rfl ?_ | with_reducible refine post_blkR ?_
        | with_reducible refine seg_eval (by simp -dsimp -implicitDefEqProofs [zV_rest, spAlive, c1, c1n, hvl, hul]; rfl) ?_
    all_goals first
      | exact post_fin rfl rfl ⟨[], [], rfl, rfl, rfl, rfl⟩
      | trace_state
  · have c1 : decide ((40 : Int) < (l.length : Int)) = false := by rw [decide_eq_false_iff_not]; omega
    have c1n : decide (40 < l.length) = false := by simp; omega
    have hP := putFAt s l w v
    rw [if_pos ⟨hs0, hs1, by omega, hok, hm⟩] at hP
    have hC := convFAt s l
    rw [if_pos ⟨by omega, hok⟩] at hC
    have hT := targetAt s l
    rw [if_pos ⟨hs0, hs1, by omega, hok⟩] at hT
    have hO := overFAt s l u
    rw [if_pos ⟨hs0, hs1, by omega, hok, hu⟩] at hO
    have hO2 := overFAt s l (targetF s.toNat l).1
    rw [if_pos ⟨hs0, hs1, by omega, hok, okV_target hok⟩] at hO2
    have hov : overF s.toNat l (targetF s.toNat l).1 = (targetF s.toNat l).2 := by simp [overF, eqV_self]
    have htl := (okV_target (s := s.toNat) hok).1
    have heq := eqCells_16 htl htl
    rw [eqV_self] at heq
    rw [hov] at hO2
    have hpm : ∀ y ∈ (putF s.toNat l ⟨w, v⟩).1, okMk y := fun y hy => by
      rcases putF_mem hy with rfl | hy
      · exact hm
      · exact hok y hy
    have hpl := putF_len s.toNat l ⟨w, v⟩
    have hC2 := convFAt s (putF s.toNat l ⟨w, v⟩).1
    rw [if_pos ⟨by omega, hpm⟩] at hC2
    have hS := sameFAt s (putF s.toNat l ⟨w, v⟩).1 s (putF s.toNat l ⟨w, v⟩).1
    rw [if_pos ⟨hs0, hs0, by omega, by omega, hpm, hpm⟩, sameF_iff.2 ⟨rfl, rfl⟩] at hS
    generalize (putF s.toNat l ⟨w, v⟩).1 = l' at *
    generalize (putF s.toNat l ⟨w, v⟩).2 = e at *
    generalize targetF s.toNat l = t at *
    obtain ⟨t, b⟩ := t
    simp only at hT hO2 htl heq
    repeat' first
        | with_reducible refine wp_regionS (seg_eval (by simp -dsimp -implicitDefEqProofs [zV_rest, spAlive, c1, c1n, hvl, hul, hP, hC, hC2, hT, hO, hO2, hS, htl, heq]; rfl) ?_)
        | with_reducible refine wp_region (seg_eval (by simp -dsimp -implicitDefEqProofs [zV_rest, spAlive, c1, c1n, hvl, hul, hP, hC, hC2, hT, hO, hO2, hS, htl, heq]; rfl) ?_)
        | with_reducible refine wp_drawsS (seg_eval (by simp -dsimp -implicitDefEqProofs [zV_rest, spAlive, c1, c1n, hvl, hul, hP, hC, hC2, hT, hO, hO2, hS, htl, heq]; rfl) ?_)
        | with_reducible refine wp_draws (seg_eval (by simp -dsimp -implicitDefEqProofs [zV_rest, spAlive, c1, c1n, hvl, hul, hP, hC, hC2, hT, hO, hO2, hS, htl, heq]; rfl) ?_)
        | with_reducible refine seg_fin ?_
        | with_reducible refine seg_pan ?_
        | with_reducible refine seg_both ?_ ?_
        | with_reducible refine seg_case (fun x h => ?_) (fun h => ?_)
        | with_reducible refine seg_gate (fun h => ?_) (fun h => ?_)
        | with_reducible refine seg_need ?_ ?_
        | with_reducible refine wp_assoc ?_ | with_reducible refine wp_skipS ?_ | with_reducible refine wp_retS ?_ | with_reducible refine wp_exitS ?_ | with_reducible refine wp_dropS (wp_eqT (by simp -dsimp -implicitDefEqProofs [zV_rest, spAlive, c1, c1n, hvl, hul, hP, hC, hC2, hT, hO, hO2, hS, htl, heq]; rfl) ?_) | with_reducible refine wp_sealS (by simp -dsimp -implicitDefEqProofs [zV_rest, spAlive, c1, c1n, hvl, hul, hP, hC, hC2, hT, hO, hO2, hS, htl, heq]; rfl) ?_ | with_reducible refine wp_seal (by simp -dsimp -implicitDefEqProofs [zV_rest, spAlive, c1, c1n, hvl, hul, hP, hC, hC2, hT, hO, hO2, hS, htl, heq]; rfl) ?_ | with_reducible refine wp_closeS (by simp -dsimp -implicitDefEqProofs [zV_rest, spAlive, c1, c1n, hvl, hul, hP, hC, hC2, hT, hO, hO2, hS, htl, heq]; rfl) ?_ | with_reducible refine wp_close (by simp -dsimp -implicitDefEqProofs [zV_rest, spAlive, c1, c1n, hvl, hul, hP, hC, hC2, hT, hO, hO2, hS, htl, heq]; rfl) ?_ | with_reducible refine wp_conc_out ?_ | with_reducible refine wp_open_out ?_ | with_reducible refine wp_pack_out ?_ | with_reducible refine wp_blockS ?_ | with_reducible refine wp_skip' ?_ | with_reducible refine wp_ret' ?_ | with_reducible refine wp_exit' ?_ | with_reducible refine wp_drop (wp_eqT (by simp -dsimp -implicitDefEqProofs [zV_rest, spAlive, c1, c1n, hvl, hul, hP, hC, hC2, hT, hO, hO2, hS, htl, heq]; rfl) ?_) | with_reducible refine wp_block' ?_
        | with_reducible refine wp_condVS (by simp -dsimp -implicitDefEqProofs [zV_rest, spAlive, c1, c1n, hvl, hul, hP, hC, hC2, hT, hO, hO2, hS, htl, heq]; rfl) ?_
        | with_reducible refine wp_condV (by simp -dsimp -implicitDefEqProofs [zV_rest, spAlive, c1, c1n, hvl, hul, hP, hC, hC2, hT, hO, hO2, hS, htl, heq]; rfl) ?_
        | with_reducible refine cond_t ?_ | with_reducible refine cond_f ?_ | with_reducible refine cond_v (fun h => ?_) (fun h => ?_)
        | with_reducible refine post_then ?_ | with_reducible refine post_thenE ?_ | with_reducible refine post_thenP ?_ | with_reducible refine post_blkP ?_ | with_reducible refine post_thenR ?_ | with_reducible refine post_blkN ?_ | with_reducible refine post_blkE ?_ | with_reducible refine post_blkF rfl ?_ | with_reducible refine post_blkR ?_
        | with_reducible refine seg_eval (by simp -dsimp -implicitDefEqProofs [zV_rest, spAlive, c1, c1n, hvl, hul, hP, hC, hC2, hT, hO, hO2, hS, htl, heq]; rfl) ?_
    all_goals first
      | exact post_fin rfl rfl ⟨[], [], rfl, rfl, rfl, rfl⟩
      | trace_state
end Go.Proofs.Ytbponegjfccgfaa.Am
