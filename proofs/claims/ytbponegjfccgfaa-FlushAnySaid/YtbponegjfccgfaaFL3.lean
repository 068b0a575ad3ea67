/-
  IN WHATEVER ORDER MARKS ARE PUT.
-/
import Derived.Test.YtbponegjfccgfaaFPL
import Derived.Test.YtbponegjfccgfaaAmK
namespace Go.Proofs.Ytbponegjfccgfaa.Am
set_option linter.unusedSimpArgs false
set_option linter.unusedVariables false
open Go Go.Proofs
attribute [local irreducible] wpA
attribute [-simp] splice

noncomputable def spFlushAny : Spec := spc (X := Int × List Mk × Int) (fun p => ([.v (.int .u16 p.1), .fsl 17 (p.2.1.map avMk), .v (.int .u8 p.2.2)], []))
  (fun p => 0 ≤ p.1 ∧ p.1 < 65536 ∧ (∀ y ∈ p.2.1, okMk y) ∧ 0 ≤ p.2.2 ∧ p.2.2 < 256) (fun _ => (.ret (.v (.bool true)), []))

/-- The variable of a flush: as it began, or as a call left it. -/
def flV (s : Int) (l : List Mk) (b : Blk) : Prop := (l = [] ∧ b = .var [.v (.int .u16 s), .v (.slice none 0 0)]) ∨ b = .var [.v (.int .u16 s), .fsl 17 (l.map avMk)]
/-- The marks that were taken: none yet, or a slice of one's own. -/
def tkV (tk : List Mk) (a : AV) (bs : List Blk) : Prop := (tk = [] ∧ a = .v (.slice none 0 0) ∧ bs = []) ∨ (tk ≠ [] ∧ a = .osl 2 ∧ bs = [.arr 39 17 (tk.map avMk)])

set_option maxHeartbeats 40000000 in
theorem flushAny_ok : CallOk Try.prog 5 spFlushAny := by
  refine ok_5 (Env.put_ok [] (Env.put_ok [] (Env.put_ok [] (Env.put_ok [] (Env.put_ok [] (Env.put_ok [] (Env.put_ok [] (Env.none_ok _) alive13_ok) (CallOk.fixD [.agg [.no, .k 17]] oursF_ok)) (CallOk.fixD [.agg [.no, .k 17]] putF_ok)) (CallOk.fixD [.agg [.no, .k 17]] target_ok)) sameF_ok) belowR_ok) (CallOk.fixD [.agg [.no, .k 17]] overF_ok)) spFlushAny (wb_spc ?_)
  rintro ⟨s, ms, at_⟩ ⟨hs0, hs1, hms, ha0, ha1⟩
  simp only at hs0 hs1 hms ha0 ha1 ⊢
  obtain ⟨a, rfl⟩ := Int.eq_ofNat_of_zero_le ha0
  unfold ac_5
  by_cases h40 : 40 < ms.length
  · have c1 : decide ((40 : Int) < (ms.length : Int)) = true := by rw [decide_eq_true_eq]; omega
    have c1n : decide (40 < ms.length) = true := by simp [h40]
    repeat' first
        | with_reducible refine wp_regionS (seg_eval (by simp -dsimp -implicitDefEqProofs [spAlive, c1, c1n]; rfl) ?_)
        | with_reducible refine wp_region (seg_eval (by simp -dsimp -implicitDefEqProofs [spAlive, c1, c1n]; rfl) ?_)
        | with_reducible refine wp_drawsS (seg_eval (by simp -dsimp -implicitDefEqProofs [spAlive, c1, c1n]; rfl) ?_)
        | with_reducible refine wp_draws (seg_eval (by simp -dsimp -implicitDefEqProofs [spAlive, c1, c1n]; rfl) ?_)
        | with_reducible refine seg_fin ?_
        | with_reducible refine seg_pan ?_
        | with_reducible refine seg_both ?_ ?_
        | with_reducible refine seg_case (fun x h => ?_) (fun h => ?_)
        | with_reducible refine seg_gate (fun h => ?_) (fun h => ?_)
        | with_reducible refine seg_need ?_ ?_
        | with_reducible refine wp_assoc ?_ | with_reducible refine wp_skipS ?_ | with_reducible refine wp_retS ?_ | with_reducible refine wp_exitS ?_ | with_reducible refine wp_dropS (wp_eqT (by simp -dsimp -implicitDefEqProofs [spAlive, c1, c1n]; rfl) ?_) | with_reducible refine wp_sealS (by simp -dsimp -implicitDefEqProofs [spAlive, c1, c1n]; rfl) ?_ | with_reducible refine wp_seal (by simp -dsimp -implicitDefEqProofs [spAlive, c1, c1n]; rfl) ?_ | with_reducible refine wp_closeS (by simp -dsimp -implicitDefEqProofs [spAlive, c1, c1n]; rfl) ?_ | with_reducible refine wp_close (by simp -dsimp -implicitDefEqProofs [spAlive, c1, c1n]; rfl) ?_ | with_reducible refine wp_conc_out ?_ | with_reducible refine wp_open_out ?_ | with_reducible refine wp_pack_out ?_ | with_reducible refine wp_blockS ?_ | with_reducible refine wp_skip' ?_ | with_reducible refine wp_ret' ?_ | with_reducible refine wp_exit' ?_ | with_reducible refine wp_drop (wp_eqT (by simp -dsimp -implicitDefEqProofs [spAlive, c1, c1n]; rfl) ?_) | with_reducible refine wp_block' ?_
        | with_reducible refine wp_condVS (by simp -dsimp -implicitDefEqProofs [spAlive, c1, c1n]; rfl) ?_
        | with_reducible refine wp_condV (by simp -dsimp -implicitDefEqProofs [spAlive, c1, c1n]; rfl) ?_
        | with_reducible refine cond_t ?_ | with_reducible refine cond_f ?_ | with_reducible refine cond_v (fun h => ?_) (fun h => ?_)
        | with_reducible refine post_then ?_ | with_reducible refine post_thenE ?_ | with_reducible refine post_thenP ?_ | with_reducible refine post_blkP ?_ | with_reducible refine post_thenR ?_ | with_reducible refine post_blkN ?_ | with_reducible refine post_blkE ?_ | with_reducible refine post_blkF rfl ?_ | with_reducible refine post_blkR ?_
        | with_reducible refine seg_eval (by simp -dsimp -implicitDefEqProofs [spAlive, c1, c1n]; rfl) ?_
    all_goals first
      | omega
      | exact post_fin rfl rfl ⟨[], [], rfl, rfl, rfl, rfl⟩
      | trace_state
  have c1 : decide ((40 : Int) < (ms.length : Int)) = false := by rw [decide_eq_false_iff_not]; omega
  have c1n : decide (40 < ms.length) = false := by simp; omega
  repeat' first
      | with_reducible refine wp_regionS (seg_eval (by simp -dsimp -implicitDefEqProofs [spAlive, c1, c1n]; rfl) ?_)
      | with_reducible refine wp_region (seg_eval (by simp -dsimp -implicitDefEqProofs [spAlive, c1, c1n]; rfl) ?_)
      | with_reducible refine wp_drawsS (seg_eval (by simp -dsimp -implicitDefEqProofs [spAlive, c1, c1n]; rfl) ?_)
      | with_reducible refine wp_draws (seg_eval (by simp -dsimp -implicitDefEqProofs [spAlive, c1, c1n]; rfl) ?_)
      | with_reducible refine seg_fin ?_
      | with_reducible refine seg_pan ?_
      | with_reducible refine seg_both ?_ ?_
      | with_reducible refine seg_case (fun x h => ?_) (fun h => ?_)
      | with_reducible refine seg_gate (fun h => ?_) (fun h => ?_)
      | with_reducible refine seg_need ?_ ?_
      | with_reducible refine wp_assoc ?_ | with_reducible refine wp_skipS ?_ | with_reducible refine wp_retS ?_ | with_reducible refine wp_exitS ?_ | with_reducible refine wp_dropS (wp_eqT (by simp -dsimp -implicitDefEqProofs [spAlive, c1, c1n]; rfl) ?_) | with_reducible refine wp_sealS (by simp -dsimp -implicitDefEqProofs [spAlive, c1, c1n]; rfl) ?_ | with_reducible refine wp_seal (by simp -dsimp -implicitDefEqProofs [spAlive, c1, c1n]; rfl) ?_ | with_reducible refine wp_closeS (by simp -dsimp -implicitDefEqProofs [spAlive, c1, c1n]; rfl) ?_ | with_reducible refine wp_close (by simp -dsimp -implicitDefEqProofs [spAlive, c1, c1n]; rfl) ?_ | with_reducible refine wp_conc_out ?_ | with_reducible refine wp_open_out ?_ | with_reducible refine wp_pack_out ?_ | with_reducible refine wp_blockS ?_ | with_reducible refine wp_skip' ?_ | with_reducible refine wp_ret' ?_ | with_reducible refine wp_exit' ?_ | with_reducible refine wp_drop (wp_eqT (by simp -dsimp -implicitDefEqProofs [spAlive, c1, c1n]; rfl) ?_) | with_reducible refine wp_block' ?_
      | with_reducible refine wp_condVS (by simp -dsimp -implicitDefEqProofs [spAlive, c1, c1n]; rfl) ?_
      | with_reducible refine wp_condV (by simp -dsimp -implicitDefEqProofs [spAlive, c1, c1n]; rfl) ?_
      | with_reducible refine cond_t ?_ | with_reducible refine cond_f ?_ | with_reducible refine cond_v (fun h => ?_) (fun h => ?_)
      | with_reducible refine post_then ?_ | with_reducible refine post_thenE ?_ | with_reducible refine post_thenP ?_ | with_reducible refine post_blkP ?_ | with_reducible refine post_thenR ?_ | with_reducible refine post_blkN ?_ | with_reducible refine post_blkE ?_ | with_reducible refine post_blkF rfl ?_ | with_reducible refine post_blkR ?_
      | with_reducible refine seg_eval (by simp -dsimp -implicitDefEqProofs [spAlive, c1, c1n]; rfl) ?_
  refine wp_loopR (fun ts mm => ∃ (l tk : List Mk) (t9 : AV) (ba : Blk) (bs : List Blk), tk.length ≤ 40 ∧ GoodF s.toNat l tk ∧ flV s l ba ∧ tkV tk t9 bs ∧
      ts = [(2, .v (.int .u8 a)), (7, .ptr 0 0 0), (8, .ptr 1 0 0), (9, t9)] ∧ mm = ba :: .var [.v (.int .u16 s), .v (.slice none 0 0)] :: bs)
    (fun j ts mm => ∃ (i : Nat) (l tk : List Mk) (t9 : AV) (ba : Blk) (bs : List Blk), i + j = ms.length ∧ tk.length ≤ i ∧ GoodF s.toNat l tk ∧ flV s l ba ∧ tkV tk t9 bs ∧
      ts = [(2, .v (.int .u8 a)), (7, .ptr 0 0 0), (8, .ptr 1 0 0), (9, t9), (32, .fsl 17 (ms.map avMk)), (33, .v (.int .i64 ms.length)), (34, .v (.int .i64 i))] ∧
      mm = ba :: .var [.v (.int .u16 s), .v (.slice none 0 0)] :: bs) ms.length ?_ ?_ ?_
  · exact ⟨[], [0, 1], rfl, rfl, 0, [], [], _, _, [], by omega, by simp, good_nil _, .inl ⟨rfl, rfl⟩, .inl ⟨rfl, rfl, rfl⟩, by simp, by simp⟩
  · rintro W hW j ts mm ⟨i, l, tk, t9, ba, bs, hi, htl, hg, hba, hbs, rfl, rfl⟩
    have hok := good_ok hg
    have hll := good_len hg
    by_cases hlt : i < ms.length
    · have hd : decide ((i : Int) < (ms.length : Int)) = true := by rw [decide_eq_true_eq]; omega
      have hd2 : decide (i < ms.length) = true := by simp [hlt]
      obtain ⟨x, hx⟩ : ∃ x, ms[i]? = some x := ⟨_, List.getElem?_eq_getElem (by omega)⟩
      have hm := hms x (List.mem_of_getElem? hx)
      have h64 : IntKind.wrap .i64 ((i : Int) + 1) = ((i + 1 : Nat) : Int) := by rw [IntWalk.i64_in _ (by omega)]; rfl
      obtain ⟨w, v⟩ := x
      have hvl : v.length = 16 := hm.2.2.1
      have hxc : (AV.agg (mc w v)).shaped = true := by simp [AV.shaped, mc_one]
      have hul : tk.length ≤ 1000000 := by omega
      have hP := putFAt s l w v
      rw [if_pos ⟨hs0, hs1, by omega, hok, hm⟩] at hP
      rcases good_put hg hm with ⟨hz, hg'⟩ | ⟨hz, he⟩
      · rw [hz] at hP
        have hpl := good_len hg'
        generalize (putF s.toNat l ⟨w, v⟩).1 = l' at *
        rcases hba with ⟨rfl, rfl⟩ | rfl <;> rcases hbs with ⟨rfl, rfl, rfl⟩ | ⟨hne, rfl, rfl⟩
        case inl.inr => exact absurd (List.eq_nil_of_length_eq_zero (by simpa using hll.symm)) hne
        all_goals (
          try simp only [List.map_nil] at hP
          repeat' first
              | with_reducible refine wp_regionS (seg_eval (by simp -dsimp -implicitDefEqProofs [zV_rest, avMk, cMk, hd, hd2, h64, hx, hvl, hxc, hul, hP]; rfl) ?_)
              | with_reducible refine wp_region (seg_eval (by simp -dsimp -implicitDefEqProofs [zV_rest, avMk, cMk, hd, hd2, h64, hx, hvl, hxc, hul, hP]; rfl) ?_)
              | with_reducible refine wp_drawsS (seg_eval (by simp -dsimp -implicitDefEqProofs [zV_rest, avMk, cMk, hd, hd2, h64, hx, hvl, hxc, hul, hP]; rfl) ?_)
              | with_reducible refine wp_draws (seg_eval (by simp -dsimp -implicitDefEqProofs [zV_rest, avMk, cMk, hd, hd2, h64, hx, hvl, hxc, hul, hP]; rfl) ?_)
              | with_reducible refine seg_fin ?_
              | with_reducible refine seg_pan ?_
              | with_reducible refine seg_both ?_ ?_
              | with_reducible refine seg_case (fun x h => ?_) (fun h => ?_)
              | with_reducible refine seg_gate (fun h => ?_) (fun h => ?_)
              | with_reducible refine seg_need ?_ ?_
              | with_reducible refine wp_assoc ?_ | with_reducible refine wp_skipS ?_ | with_reducible refine wp_retS ?_ | with_reducible refine wp_exitS ?_ | with_reducible refine wp_dropS (wp_eqT (by simp -dsimp -implicitDefEqProofs [zV_rest, avMk, cMk, hd, hd2, h64, hx, hvl, hxc, hul, hP]; rfl) ?_) | with_reducible refine wp_sealS (by simp -dsimp -implicitDefEqProofs [zV_rest, avMk, cMk, hd, hd2, h64, hx, hvl, hxc, hul, hP]; rfl) ?_ | with_reducible refine wp_seal (by simp -dsimp -implicitDefEqProofs [zV_rest, avMk, cMk, hd, hd2, h64, hx, hvl, hxc, hul, hP]; rfl) ?_ | with_reducible refine wp_closeS (by simp -dsimp -implicitDefEqProofs [zV_rest, avMk, cMk, hd, hd2, h64, hx, hvl, hxc, hul, hP]; rfl) ?_ | with_reducible refine wp_close (by simp -dsimp -implicitDefEqProofs [zV_rest, avMk, cMk, hd, hd2, h64, hx, hvl, hxc, hul, hP]; rfl) ?_ | with_reducible refine wp_conc_out ?_ | with_reducible refine wp_open_out ?_ | with_reducible refine wp_pack_out ?_ | with_reducible refine wp_blockS ?_ | with_reducible refine wp_skip' ?_ | with_reducible refine wp_ret' ?_ | with_reducible refine wp_exit' ?_ | with_reducible refine wp_drop (wp_eqT (by simp -dsimp -implicitDefEqProofs [zV_rest, avMk, cMk, hd, hd2, h64, hx, hvl, hxc, hul, hP]; rfl) ?_) | with_reducible refine wp_block' ?_
              | with_reducible refine wp_condVS (by simp -dsimp -implicitDefEqProofs [zV_rest, avMk, cMk, hd, hd2, h64, hx, hvl, hxc, hul, hP]; rfl) ?_
              | with_reducible refine wp_condV (by simp -dsimp -implicitDefEqProofs [zV_rest, avMk, cMk, hd, hd2, h64, hx, hvl, hxc, hul, hP]; rfl) ?_
              | with_reducible refine cond_t ?_ | with_reducible refine cond_f ?_ | with_reducible refine cond_v (fun h => ?_) (fun h => ?_)
              | with_reducible refine post_then ?_ | with_reducible refine post_thenE ?_ | with_reducible refine post_thenP ?_ | with_reducible refine post_blkP ?_ | with_reducible refine post_thenR ?_ | with_reducible refine post_blkN ?_ | with_reducible refine post_blkE ?_ | with_reducible refine post_blkF rfl ?_ | with_reducible refine post_blkR ?_
              | with_reducible refine seg_eval (by simp -dsimp -implicitDefEqProofs [zV_rest, avMk, cMk, hd, hd2, h64, hx, hvl, hxc, hul, hP]; rfl) ?_
          all_goals first
            | omega
            | exact ⟨j - 1, by omega, [], [0, 1, 5], rfl, rfl, i + 1, l', _, _, _, _, by omega, by have := htl; simp only [List.length_append, List.length_nil, List.length_cons] at this ⊢; omega, hg', .inr rfl, .inr ⟨by simp, rfl, rfl⟩, by simp, by simp [avMk, cMk]⟩
            | exact ⟨j - 1, by omega, [], [0, 1, 6], rfl, rfl, i + 1, l', _, _, _, _, by omega, by have := htl; simp only [List.length_append, List.length_nil, List.length_cons] at this ⊢; omega, hg', .inr rfl, .inr ⟨by simp, rfl, rfl⟩, by simp, by simp [avMk, cMk]⟩
            | trace_state)
      · rw [he] at hP
        have hz2 : ((putF s.toNat l ⟨w, v⟩).2 == (0 : Int)) = false := by simpa using hz
        generalize (putF s.toNat l ⟨w, v⟩).2 = e at *
        rcases hba with ⟨rfl, rfl⟩ | rfl <;> rcases hbs with ⟨rfl, rfl, rfl⟩ | ⟨hne, rfl, rfl⟩
        case inl.inr => exact absurd (List.eq_nil_of_length_eq_zero (by simpa using hll.symm)) hne
        all_goals (
          try simp only [List.map_nil] at hP
          repeat' first
              | with_reducible refine wp_regionS (seg_eval (by simp -dsimp -implicitDefEqProofs [zV_rest, avMk, cMk, hd, hd2, h64, hx, hvl, hxc, hul, hP, hz2]; rfl) ?_)
              | with_reducible refine wp_region (seg_eval (by simp -dsimp -implicitDefEqProofs [zV_rest, avMk, cMk, hd, hd2, h64, hx, hvl, hxc, hul, hP, hz2]; rfl) ?_)
              | with_reducible refine wp_drawsS (seg_eval (by simp -dsimp -implicitDefEqProofs [zV_rest, avMk, cMk, hd, hd2, h64, hx, hvl, hxc, hul, hP, hz2]; rfl) ?_)
              | with_reducible refine wp_draws (seg_eval (by simp -dsimp -implicitDefEqProofs [zV_rest, avMk, cMk, hd, hd2, h64, hx, hvl, hxc, hul, hP, hz2]; rfl) ?_)
              | with_reducible refine seg_fin ?_
              | with_reducible refine seg_pan ?_
              | with_reducible refine seg_both ?_ ?_
              | with_reducible refine seg_case (fun x h => ?_) (fun h => ?_)
              | with_reducible refine seg_gate (fun h => ?_) (fun h => ?_)
              | with_reducible refine seg_need ?_ ?_
              | with_reducible refine wp_assoc ?_ | with_reducible refine wp_skipS ?_ | with_reducible refine wp_retS ?_ | with_reducible refine wp_exitS ?_ | with_reducible refine wp_dropS (wp_eqT (by simp -dsimp -implicitDefEqProofs [zV_rest, avMk, cMk, hd, hd2, h64, hx, hvl, hxc, hul, hP, hz2]; rfl) ?_) | with_reducible refine wp_sealS (by simp -dsimp -implicitDefEqProofs [zV_rest, avMk, cMk, hd, hd2, h64, hx, hvl, hxc, hul, hP, hz2]; rfl) ?_ | with_reducible refine wp_seal (by simp -dsimp -implicitDefEqProofs [zV_rest, avMk, cMk, hd, hd2, h64, hx, hvl, hxc, hul, hP, hz2]; rfl) ?_ | with_reducible refine wp_closeS (by simp -dsimp -implicitDefEqProofs [zV_rest, avMk, cMk, hd, hd2, h64, hx, hvl, hxc, hul, hP, hz2]; rfl) ?_ | with_reducible refine wp_close (by simp -dsimp -implicitDefEqProofs [zV_rest, avMk, cMk, hd, hd2, h64, hx, hvl, hxc, hul, hP, hz2]; rfl) ?_ | with_reducible refine wp_conc_out ?_ | with_reducible refine wp_open_out ?_ | with_reducible refine wp_pack_out ?_ | with_reducible refine wp_blockS ?_ | with_reducible refine wp_skip' ?_ | with_reducible refine wp_ret' ?_ | with_reducible refine wp_exit' ?_ | with_reducible refine wp_drop (wp_eqT (by simp -dsimp -implicitDefEqProofs [zV_rest, avMk, cMk, hd, hd2, h64, hx, hvl, hxc, hul, hP, hz2]; rfl) ?_) | with_reducible refine wp_block' ?_
              | with_reducible refine wp_condVS (by simp -dsimp -implicitDefEqProofs [zV_rest, avMk, cMk, hd, hd2, h64, hx, hvl, hxc, hul, hP, hz2]; rfl) ?_
              | with_reducible refine wp_condV (by simp -dsimp -implicitDefEqProofs [zV_rest, avMk, cMk, hd, hd2, h64, hx, hvl, hxc, hul, hP, hz2]; rfl) ?_
              | with_reducible refine cond_t ?_ | with_reducible refine cond_f ?_ | with_reducible refine cond_v (fun h => ?_) (fun h => ?_)
              | with_reducible refine post_then ?_ | with_reducible refine post_thenE ?_ | with_reducible refine post_thenP ?_ | with_reducible refine post_blkP ?_ | with_reducible refine post_thenR ?_ | with_reducible refine post_blkN ?_ | with_reducible refine post_blkE ?_ | with_reducible refine post_blkF rfl ?_ | with_reducible refine post_blkR ?_
              | with_reducible refine seg_eval (by simp -dsimp -implicitDefEqProofs [zV_rest, avMk, cMk, hd, hd2, h64, hx, hvl, hxc, hul, hP, hz2]; rfl) ?_
          all_goals first
            | omega
            | exact ⟨j - 1, by omega, [], [0, 1], rfl, rfl, i + 1, _, _, _, _, _, by omega, Nat.le_succ_of_le htl, hg, .inr rfl, .inl ⟨rfl, rfl, rfl⟩, by simp, by simp⟩
            | exact ⟨j - 1, by omega, [], [0, 1, 2], rfl, rfl, i + 1, _, _, _, _, _, by omega, Nat.le_succ_of_le htl, hg, .inr rfl, .inr ⟨hne, rfl, rfl⟩, by simp, by simp⟩
            | trace_state)
    · have hd : decide ((i : Int) < (ms.length : Int)) = false := by rw [decide_eq_false_iff_not]; omega
      have hd2 : decide (i < ms.length) = false := by simp [hlt]
      repeat' first
          | with_reducible refine wp_regionS (seg_eval (by simp -dsimp -implicitDefEqProofs [hd, hd2]; rfl) ?_)
          | with_reducible refine wp_region (seg_eval (by simp -dsimp -implicitDefEqProofs [hd, hd2]; rfl) ?_)
          | with_reducible refine wp_drawsS (seg_eval (by simp -dsimp -implicitDefEqProofs [hd, hd2]; rfl) ?_)
          | with_reducible refine wp_draws (seg_eval (by simp -dsimp -implicitDefEqProofs [hd, hd2]; rfl) ?_)
          | with_reducible refine seg_fin ?_
          | with_reducible refine seg_pan ?_
          | with_reducible refine seg_both ?_ ?_
          | with_reducible refine seg_case (fun x h => ?_) (fun h => ?_)
          | with_reducible refine seg_gate (fun h => ?_) (fun h => ?_)
          | with_reducible refine seg_need ?_ ?_
          | with_reducible refine wp_assoc ?_ | with_reducible refine wp_skipS ?_ | with_reducible refine wp_retS ?_ | with_reducible refine wp_exitS ?_ | with_reducible refine wp_dropS (wp_eqT (by simp -dsimp -implicitDefEqProofs [hd, hd2]; rfl) ?_) | with_reducible refine wp_sealS (by simp -dsimp -implicitDefEqProofs [hd, hd2]; rfl) ?_ | with_reducible refine wp_seal (by simp -dsimp -implicitDefEqProofs [hd, hd2]; rfl) ?_ | with_reducible refine wp_closeS (by simp -dsimp -implicitDefEqProofs [hd, hd2]; rfl) ?_ | with_reducible refine wp_close (by simp -dsimp -implicitDefEqProofs [hd, hd2]; rfl) ?_ | with_reducible refine wp_conc_out ?_ | with_reducible refine wp_open_out ?_ | with_reducible refine wp_pack_out ?_ | with_reducible refine wp_blockS ?_ | with_reducible refine wp_skip' ?_ | with_reducible refine wp_ret' ?_ | with_reducible refine wp_exit' ?_ | with_reducible refine wp_drop (wp_eqT (by simp -dsimp -implicitDefEqProofs [hd, hd2]; rfl) ?_) | with_reducible refine wp_block' ?_
          | with_reducible refine wp_condVS (by simp -dsimp -implicitDefEqProofs [hd, hd2]; rfl) ?_
          | with_reducible refine wp_condV (by simp -dsimp -implicitDefEqProofs [hd, hd2]; rfl) ?_
          | with_reducible refine cond_t ?_ | with_reducible refine cond_f ?_ | with_reducible refine cond_v (fun h => ?_) (fun h => ?_)
          | with_reducible refine post_then ?_ | with_reducible refine post_thenE ?_ | with_reducible refine post_thenP ?_ | with_reducible refine post_blkP ?_ | with_reducible refine post_thenR ?_ | with_reducible refine post_blkN ?_ | with_reducible refine post_blkE ?_ | with_reducible refine post_blkF rfl ?_ | with_reducible refine post_blkR ?_
          | with_reducible refine seg_eval (by simp -dsimp -implicitDefEqProofs [hd, hd2]; rfl) ?_
      exact hW _ _ ⟨l, tk, t9, ba, bs, by omega, hg, hba, hbs, by simp, by simp⟩
  · rintro ts mm ⟨l, tk, t9, ba, bs, htl, hg, hba, hbs, rfl, rfl⟩
    have hok := good_ok hg
    have hll := good_len hg
    have hrl : (rotL a tk).length = tk.length := (rot_perm a tk).length_eq
    obtain ⟨t9', h9a, h9b⟩ : ∃ x : AV, (tk = [] → x = .fsl 0 []) ∧ (tk ≠ [] → x = .fsl 17 (tk.map avMk)) := by
      by_cases h : tk = []
      · exact ⟨_, fun _ => rfl, fun k => absurd h k⟩
      · exact ⟨_, fun k => absurd k h, fun _ => rfl⟩
    obtain ⟨ba', hba'⟩ : ∃ x, x = ba := ⟨_, rfl⟩
    rcases hbs with ⟨htk, rfl, rfl⟩ | ⟨hne, rfl, rfl⟩ <;> rcases hba with ⟨hl0, rfl⟩ | rfl
    case inr.inl => exact absurd (List.eq_nil_of_length_eq_zero (by rw [← hll, hl0]; rfl)) hne
    all_goals (
      repeat' first
          | with_reducible refine wp_regionS (seg_eval (by simp -dsimp -implicitDefEqProofs; rfl) ?_)
          | with_reducible refine wp_region (seg_eval (by simp -dsimp -implicitDefEqProofs; rfl) ?_)
          | with_reducible refine wp_drawsS (seg_eval (by simp -dsimp -implicitDefEqProofs; rfl) ?_)
          | with_reducible refine wp_draws (seg_eval (by simp -dsimp -implicitDefEqProofs; rfl) ?_)
          | with_reducible refine seg_fin ?_
          | with_reducible refine seg_pan ?_
          | with_reducible refine seg_both ?_ ?_
          | with_reducible refine seg_case (fun x h => ?_) (fun h => ?_)
          | with_reducible refine seg_gate (fun h => ?_) (fun h => ?_)
          | with_reducible refine seg_need ?_ ?_
          | with_reducible refine wp_assoc ?_ | with_reducible refine wp_skipS ?_ | with_reducible refine wp_retS ?_ | with_reducible refine wp_exitS ?_ | with_reducible refine wp_dropS (wp_eqT (by simp -dsimp -implicitDefEqProofs; rfl) ?_) | with_reducible refine wp_sealS (by simp -dsimp -implicitDefEqProofs; rfl) ?_ | with_reducible refine wp_seal (by simp -dsimp -implicitDefEqProofs; rfl) ?_ | with_reducible refine wp_closeS (by simp -dsimp -implicitDefEqProofs; rfl) ?_ | with_reducible refine wp_close (by simp -dsimp -implicitDefEqProofs; rfl) ?_ | with_reducible refine wp_conc_out ?_ | with_reducible refine wp_open_out ?_ | with_reducible refine wp_pack_out ?_ | with_reducible refine wp_blockS ?_ | with_reducible refine wp_skip' ?_ | with_reducible refine wp_ret' ?_ | with_reducible refine wp_exit' ?_ | with_reducible refine wp_drop (wp_eqT (by simp -dsimp -implicitDefEqProofs; rfl) ?_) | with_reducible refine wp_block' ?_
          | with_reducible refine wp_condVS (by simp -dsimp -implicitDefEqProofs; rfl) ?_
          | with_reducible refine wp_condV (by simp -dsimp -implicitDefEqProofs; rfl) ?_
          | with_reducible refine cond_t ?_ | with_reducible refine cond_f ?_ | with_reducible refine cond_v (fun h => ?_) (fun h => ?_)
          | with_reducible refine post_then ?_ | with_reducible refine post_thenE ?_ | with_reducible refine post_thenP ?_ | with_reducible refine post_blkP ?_ | with_reducible refine post_thenR ?_ | with_reducible refine post_blkN ?_ | with_reducible refine post_blkE ?_ | with_reducible refine post_blkF rfl ?_ | with_reducible refine post_blkR ?_
          | with_reducible refine seg_eval (by simp -dsimp -implicitDefEqProofs; rfl) ?_
      refine wp_loopR (fun ts mm => ∃ bb : Blk, flV s l bb ∧ ts = [(7, .ptr 0 0 0), (8, .ptr 1 0 0), (9, t9')] ∧ mm = [ba', bb])
        (fun j ts mm => ∃ (i : Nat) (l' : List Mk) (bb : Blk), i + j = tk.length ∧ GoodF s.toNat l' ((rotL a tk).take i) ∧ flV s l' bb ∧
          ts = [(2, .v (.int .u8 a)), (7, .ptr 0 0 0), (8, .ptr 1 0 0), (9, t9'), (53, .v (.int .i64 tk.length)), (54, .v (.int .i64 i))] ∧ mm = [ba', bb]) tk.length ?_ ?_ ?_
      · subst hba'
        first
          | (have ht9 := h9a htk; subst ht9)
          | (have ht9 := h9b hne; subst ht9)
        first
          | (subst htk; exact ⟨[], [0, 1], rfl, rfl, 0, [], _, by simp, good_nil _, .inl ⟨rfl, rfl⟩, by simp, by simp⟩)
          | exact ⟨[], [0, 1], rfl, rfl, 0, [], _, by omega, good_nil _, .inl ⟨rfl, rfl⟩, by simp, by simp⟩
          | trace_state
      · rintro W hW j ts mm ⟨i, l', bb, hi, hg', hbb, rfl, rfl⟩
        subst hba'
        first
          | (have ht9 := h9a htk; subst ht9)
          | (have ht9 := h9b hne; subst ht9)
        have hok' := good_ok hg'
        have hll' := good_len hg'
        by_cases hlt : i < tk.length
        · have hd : decide ((i : Int) < (tk.length : Int)) = true := by rw [decide_eq_true_eq]; omega
          have hd2 : decide (i < tk.length) = true := by simp [hlt]
          have h64 : IntKind.wrap .i64 ((i : Int) + 1) = ((i + 1 : Nat) : Int) := by rw [IntWalk.i64_in _ (by omega)]; rfl
          have h65 : IntKind.wrap .i64 ((i : Int) + (a : Int)) = (i : Int) + (a : Int) := IntWalk.i64_in _ (by omega)
          have hnn : tk ≠ [] := fun e => by simp [e] at hlt
          first | exact absurd htk hnn | (
            have h66 : IntKind.wrap .i64 (a : Int) = (a : Int) := IntWalk.i64_in _ (by omega)
            have h67 : Int.tmod ((i : Int) + (a : Int)) (tk.length : Int) = ((((i + a) % tk.length : Nat)) : Int) := by rw [← Int.natCast_add]; exact (Int.ofNat_tmod _ _).symm
            have h68 : ((tk.length : Int) == 0) = false := by simp [hnn]
            have h69 : (tk.length == 0) = false := by simp [hnn]
            have h70 : (i + a) % tk.length < tk.length := Nat.mod_lt _ (by omega)
            have h71 : decide ((i + a) % tk.length < tk.length) = true := by simp [h70]
            have h72 : decide ((((i + a) % tk.length : Nat) : Int) < (tk.length : Int)) = true := by rw [decide_eq_true_eq]; omega
            have h73 : IntKind.wrap .i64 ((((i + a) % tk.length : Nat)) : Int) = ((((i + a) % tk.length : Nat)) : Int) := IntWalk.i64_in _ (by omega)
            obtain ⟨x, hx⟩ : ∃ x, (rotL a tk)[i]? = some x := ⟨_, List.getElem?_eq_getElem (by omega)⟩
            have hx2 := hx
            rw [rot_get hlt] at hx2
            have hm := good_oks hg x (List.mem_of_getElem? hx2)
            have hz := good_fresh hg hg' (rot_perm a tk) hx
            rcases good_put hg' hm with ⟨_, hg2⟩ | ⟨hno, _⟩
            · rw [← take_more hx] at hg2
              obtain ⟨w, v⟩ := x
              have hvl : v.length = 16 := hm.2.2.1
              have hP := putFAt s l' w v
              rw [if_pos ⟨hs0, hs1, by simp at hll'; omega, hok', hm⟩, hz] at hP
              generalize (putF s.toNat l' ⟨w, v⟩).1 = l2 at *
              generalize (i + a) % tk.length = q at *
              rcases hbb with ⟨rfl, rfl⟩ | rfl
              all_goals (
                try simp only [List.map_nil] at hP
                repeat' first
                    | with_reducible refine wp_regionS (seg_eval (by simp -dsimp -implicitDefEqProofs [zV_rest, avMk, cMk, hd, hd2, h64, h66, h65, h67, h68, h69, h71, h72, h73, hnn, hx2, hvl, hP]; rfl) ?_)
                    | with_reducible refine wp_region (seg_eval (by simp -dsimp -implicitDefEqProofs [zV_rest, avMk, cMk, hd, hd2, h64, h66, h65, h67, h68, h69, h71, h72, h73, hnn, hx2, hvl, hP]; rfl) ?_)
                    | with_reducible refine wp_drawsS (seg_eval (by simp -dsimp -implicitDefEqProofs [zV_rest, avMk, cMk, hd, hd2, h64, h66, h65, h67, h68, h69, h71, h72, h73, hnn, hx2, hvl, hP]; rfl) ?_)
                    | with_reducible refine wp_draws (seg_eval (by simp -dsimp -implicitDefEqProofs [zV_rest, avMk, cMk, hd, hd2, h64, h66, h65, h67, h68, h69, h71, h72, h73, hnn, hx2, hvl, hP]; rfl) ?_)
                    | with_reducible refine seg_fin ?_
                    | with_reducible refine seg_pan ?_
                    | with_reducible refine seg_both ?_ ?_
                    | with_reducible refine seg_case (fun x h => ?_) (fun h => ?_)
                    | with_reducible refine seg_gate (fun h => ?_) (fun h => ?_)
                    | with_reducible refine seg_need ?_ ?_
                    | with_reducible refine wp_assoc ?_ | with_reducible refine wp_skipS ?_ | with_reducible refine wp_retS ?_ | with_reducible refine wp_exitS ?_ | with_reducible refine wp_dropS (wp_eqT (by simp -dsimp -implicitDefEqProofs [zV_rest, avMk, cMk, hd, hd2, h64, h66, h65, h67, h68, h69, h71, h72, h73, hnn, hx2, hvl, hP]; rfl) ?_) | with_reducible refine wp_sealS (by simp -dsimp -implicitDefEqProofs [zV_rest, avMk, cMk, hd, hd2, h64, h66, h65, h67, h68, h69, h71, h72, h73, hnn, hx2, hvl, hP]; rfl) ?_ | with_reducible refine wp_seal (by simp -dsimp -implicitDefEqProofs [zV_rest, avMk, cMk, hd, hd2, h64, h66, h65, h67, h68, h69, h71, h72, h73, hnn, hx2, hvl, hP]; rfl) ?_ | with_reducible refine wp_closeS (by simp -dsimp -implicitDefEqProofs [zV_rest, avMk, cMk, hd, hd2, h64, h66, h65, h67, h68, h69, h71, h72, h73, hnn, hx2, hvl, hP]; rfl) ?_ | with_reducible refine wp_close (by simp -dsimp -implicitDefEqProofs [zV_rest, avMk, cMk, hd, hd2, h64, h66, h65, h67, h68, h69, h71, h72, h73, hnn, hx2, hvl, hP]; rfl) ?_ | with_reducible refine wp_conc_out ?_ | with_reducible refine wp_open_out ?_ | with_reducible refine wp_pack_out ?_ | with_reducible refine wp_blockS ?_ | with_reducible refine wp_skip' ?_ | with_reducible refine wp_ret' ?_ | with_reducible refine wp_exit' ?_ | with_reducible refine wp_drop (wp_eqT (by simp -dsimp -implicitDefEqProofs [zV_rest, avMk, cMk, hd, hd2, h64, h66, h65, h67, h68, h69, h71, h72, h73, hnn, hx2, hvl, hP]; rfl) ?_) | with_reducible refine wp_block' ?_
                    | with_reducible refine wp_condVS (by simp -dsimp -implicitDefEqProofs [zV_rest, avMk, cMk, hd, hd2, h64, h66, h65, h67, h68, h69, h71, h72, h73, hnn, hx2, hvl, hP]; rfl) ?_
                    | with_reducible refine wp_condV (by simp -dsimp -implicitDefEqProofs [zV_rest, avMk, cMk, hd, hd2, h64, h66, h65, h67, h68, h69, h71, h72, h73, hnn, hx2, hvl, hP]; rfl) ?_
                    | with_reducible refine cond_t ?_ | with_reducible refine cond_f ?_ | with_reducible refine cond_v (fun h => ?_) (fun h => ?_)
                    | with_reducible refine post_then ?_ | with_reducible refine post_thenE ?_ | with_reducible refine post_thenP ?_ | with_reducible refine post_blkP ?_ | with_reducible refine post_thenR ?_ | with_reducible refine post_blkN ?_ | with_reducible refine post_blkE ?_ | with_reducible refine post_blkF rfl ?_ | with_reducible refine post_blkR ?_
                    | with_reducible refine seg_eval (by simp -dsimp -implicitDefEqProofs [zV_rest, avMk, cMk, hd, hd2, h64, h66, h65, h67, h68, h69, h71, h72, h73, hnn, hx2, hvl, hP]; rfl) ?_
                all_goals first
                  | omega
                  | exact ⟨j - 1, by omega, [], [0, 1], rfl, rfl, i + 1, l2, _, by omega, hg2, .inr rfl, by simp, by simp⟩
                  | trace_state)
            · exact absurd hz hno)
        · have hd : decide ((i : Int) < (tk.length : Int)) = false := by rw [decide_eq_false_iff_not]; omega
          have hd2 : decide (i < tk.length) = false := by simp [hlt]
          rw [List.take_of_length_le (by omega)] at hg'
          have hsame := good_same hg hg' (rot_perm a tk)
          subst hsame
          repeat' first
              | with_reducible refine wp_regionS (seg_eval (by simp -dsimp -implicitDefEqProofs [hd, hd2]; rfl) ?_)
              | with_reducible refine wp_region (seg_eval (by simp -dsimp -implicitDefEqProofs [hd, hd2]; rfl) ?_)
              | with_reducible refine wp_drawsS (seg_eval (by simp -dsimp -implicitDefEqProofs [hd, hd2]; rfl) ?_)
              | with_reducible refine wp_draws (seg_eval (by simp -dsimp -implicitDefEqProofs [hd, hd2]; rfl) ?_)
              | with_reducible refine seg_fin ?_
              | with_reducible refine seg_pan ?_
              | with_reducible refine seg_both ?_ ?_
              | with_reducible refine seg_case (fun x h => ?_) (fun h => ?_)
              | with_reducible refine seg_gate (fun h => ?_) (fun h => ?_)
              | with_reducible refine seg_need ?_ ?_
              | with_reducible refine wp_assoc ?_ | with_reducible refine wp_skipS ?_ | with_reducible refine wp_retS ?_ | with_reducible refine wp_exitS ?_ | with_reducible refine wp_dropS (wp_eqT (by simp -dsimp -implicitDefEqProofs [hd, hd2]; rfl) ?_) | with_reducible refine wp_sealS (by simp -dsimp -implicitDefEqProofs [hd, hd2]; rfl) ?_ | with_reducible refine wp_seal (by simp -dsimp -implicitDefEqProofs [hd, hd2]; rfl) ?_ | with_reducible refine wp_closeS (by simp -dsimp -implicitDefEqProofs [hd, hd2]; rfl) ?_ | with_reducible refine wp_close (by simp -dsimp -implicitDefEqProofs [hd, hd2]; rfl) ?_ | with_reducible refine wp_conc_out ?_ | with_reducible refine wp_open_out ?_ | with_reducible refine wp_pack_out ?_ | with_reducible refine wp_blockS ?_ | with_reducible refine wp_skip' ?_ | with_reducible refine wp_ret' ?_ | with_reducible refine wp_exit' ?_ | with_reducible refine wp_drop (wp_eqT (by simp -dsimp -implicitDefEqProofs [hd, hd2]; rfl) ?_) | with_reducible refine wp_block' ?_
              | with_reducible refine wp_condVS (by simp -dsimp -implicitDefEqProofs [hd, hd2]; rfl) ?_
              | with_reducible refine wp_condV (by simp -dsimp -implicitDefEqProofs [hd, hd2]; rfl) ?_
              | with_reducible refine cond_t ?_ | with_reducible refine cond_f ?_ | with_reducible refine cond_v (fun h => ?_) (fun h => ?_)
              | with_reducible refine post_then ?_ | with_reducible refine post_thenE ?_ | with_reducible refine post_thenP ?_ | with_reducible refine post_blkP ?_ | with_reducible refine post_thenR ?_ | with_reducible refine post_blkN ?_ | with_reducible refine post_blkE ?_ | with_reducible refine post_blkF rfl ?_ | with_reducible refine post_blkR ?_
              | with_reducible refine seg_eval (by simp -dsimp -implicitDefEqProofs [hd, hd2]; rfl) ?_
          exact hW _ _ ⟨bb, hbb, by simp, by simp⟩
      · rintro ts mm ⟨bb, hbb, rfl, rfl⟩
        obtain ⟨ba2, hb2⟩ : ∃ x, x = ba' := ⟨_, rfl⟩
        obtain ⟨t92, h92⟩ : ∃ x, x = t9' := ⟨_, rfl⟩
        subst hba'
        have hT := targetAt s l
        rw [if_pos ⟨hs0, hs1, by omega, hok⟩] at hT
        have hC := convFAt s l
        rw [if_pos ⟨by omega, hok⟩] at hC
        have hS := sameFAt s l s l
        rw [if_pos ⟨hs0, hs0, by omega, by omega, hok, hok⟩, sameF_iff.2 ⟨rfl, rfl⟩] at hS
        have hO := overFAt s l (targetF s.toNat l).1
        rw [if_pos ⟨hs0, hs1, by omega, hok, okV_target hok⟩] at hO
        have hov : overF s.toNat l (targetF s.toNat l).1 = (targetF s.toNat l).2 := by simp [overF, eqV_self]
        rw [hov] at hO
        have hto := okV_target (s := s.toNat) hok
        have htn := target_none (s := s.toNat) (l := l)
        have hfm : (targetF s.toNat l).2 = true → ∀ m ∈ tk, m.who.toNat < 16 ∧ belowV m.past (targetF s.toNat l).1 = true ∧ ∃ x y, m.past[m.who.toNat]? = some x ∧ (targetF s.toNat l).1[m.who.toNat]? = some y ∧ x < y := fun hb m hm => by
          have hml := (good_mem hg).2 hm
          have hh := (hg.2.2.1 m hml).1
          rw [target_good hg hb]
          exact ⟨has_lt (by omega) hh, foldT_mark (s := s.toNat) (by omega) hok hml hh⟩
        generalize targetF s.toNat l = t at *
        obtain ⟨t, b⟩ := t
        simp only at hT hO hto htn hfm
        have htl16 := hto.1
        have heq := eqCells_16 htl16 htl16
        rw [eqV_self] at heq
        have hz : b = false → t = zV := htn
        rcases hbb with ⟨hl1, rfl⟩ | rfl
        all_goals (
          first | exact absurd (List.eq_nil_of_length_eq_zero (by rw [← hll, hl1]; rfl)) hne | (
          first
            | (have ht9 := h9a htk; subst ht9)
            | (have ht9 := h9b hne; subst ht9)
          first
            | (have hl2 : l = [] := List.eq_nil_of_length_eq_zero (by rw [hll, htk]; rfl)
               subst hl2
               simp only [List.map_nil] at hT hC hS hO)
            | skip
          cases b
          · have hz := hz rfl
            subst hz
            repeat' first
                | with_reducible refine wp_regionS (seg_eval (by simp -dsimp -implicitDefEqProofs [zV_rest, hT, hC, hS, hO, heq, htl16]; rfl) ?_)
                | with_reducible refine wp_region (seg_eval (by simp -dsimp -implicitDefEqProofs [zV_rest, hT, hC, hS, hO, heq, htl16]; rfl) ?_)
                | with_reducible refine wp_drawsS (seg_eval (by simp -dsimp -implicitDefEqProofs [zV_rest, hT, hC, hS, hO, heq, htl16]; rfl) ?_)
                | with_reducible refine wp_draws (seg_eval (by simp -dsimp -implicitDefEqProofs [zV_rest, hT, hC, hS, hO, heq, htl16]; rfl) ?_)
                | with_reducible refine seg_fin ?_
                | with_reducible refine seg_pan ?_
                | with_reducible refine seg_both ?_ ?_
                | with_reducible refine seg_case (fun x h => ?_) (fun h => ?_)
                | with_reducible refine seg_gate (fun h => ?_) (fun h => ?_)
                | with_reducible refine seg_need ?_ ?_
                | with_reducible refine wp_assoc ?_ | with_reducible refine wp_skipS ?_ | with_reducible refine wp_retS ?_ | with_reducible refine wp_exitS ?_ | with_reducible refine wp_dropS (wp_eqT (by simp -dsimp -implicitDefEqProofs [zV_rest, hT, hC, hS, hO, heq, htl16]; rfl) ?_) | with_reducible refine wp_sealS (by simp -dsimp -implicitDefEqProofs [zV_rest, hT, hC, hS, hO, heq, htl16]; rfl) ?_ | with_reducible refine wp_seal (by simp -dsimp -implicitDefEqProofs [zV_rest, hT, hC, hS, hO, heq, htl16]; rfl) ?_ | with_reducible refine wp_closeS (by simp -dsimp -implicitDefEqProofs [zV_rest, hT, hC, hS, hO, heq, htl16]; rfl) ?_ | with_reducible refine wp_close (by simp -dsimp -implicitDefEqProofs [zV_rest, hT, hC, hS, hO, heq, htl16]; rfl) ?_ | with_reducible refine wp_conc_out ?_ | with_reducible refine wp_open_out ?_ | with_reducible refine wp_pack_out ?_ | with_reducible refine wp_blockS ?_ | with_reducible refine wp_skip' ?_ | with_reducible refine wp_ret' ?_ | with_reducible refine wp_exit' ?_ | with_reducible refine wp_drop (wp_eqT (by simp -dsimp -implicitDefEqProofs [zV_rest, hT, hC, hS, hO, heq, htl16]; rfl) ?_) | with_reducible refine wp_block' ?_
                | with_reducible refine wp_condVS (by simp -dsimp -implicitDefEqProofs [zV_rest, hT, hC, hS, hO, heq, htl16]; rfl) ?_
                | with_reducible refine wp_condV (by simp -dsimp -implicitDefEqProofs [zV_rest, hT, hC, hS, hO, heq, htl16]; rfl) ?_
                | with_reducible refine cond_t ?_ | with_reducible refine cond_f ?_ | with_reducible refine cond_v (fun h => ?_) (fun h => ?_)
                | with_reducible refine post_then ?_ | with_reducible refine post_thenE ?_ | with_reducible refine post_thenP ?_ | with_reducible refine post_blkP ?_ | with_reducible refine post_thenR ?_ | with_reducible refine post_blkN ?_ | with_reducible refine post_blkE ?_ | with_reducible refine post_blkF rfl ?_ | with_reducible refine post_blkR ?_
                | with_reducible refine seg_eval (by simp -dsimp -implicitDefEqProofs [zV_rest, hT, hC, hS, hO, heq, htl16]; rfl) ?_
            all_goals (
              refine wp_loopR (fun ts mm => ts = [(7, .ptr 0 0 0), (17, .fptr (.agg (vc zV)) 0), (18, .v (.bool false))] ∧ mm = [ba2])
                (fun j ts mm => ∃ i : Nat, i + j = tk.length ∧ ts = [(7, .ptr 0 0 0), (17, .fptr (.agg (vc zV)) 0), (18, .v (.bool false)), (102, t92), (103, .v (.int .i64 tk.length)), (104, .v (.int .i64 i))] ∧ mm = [ba2]) tk.length ?_ ?_ ?_
              · subst hb2 h92
                first
                  | (subst htk; exact ⟨[], [0], rfl, rfl, 0, by simp, by simp, by simp⟩)
                  | exact ⟨[], [0], rfl, rfl, 0, by omega, by simp, by simp⟩
              · rintro W hW j ts mm ⟨i, hi, rfl, rfl⟩
                subst hb2 h92
                by_cases hlt : i < tk.length
                · have hd : decide ((i : Int) < (tk.length : Int)) = true := by rw [decide_eq_true_eq]; omega
                  have hd2 : decide (i < tk.length) = true := by simp [hlt]
                  have h64 : IntKind.wrap .i64 ((i : Int) + 1) = ((i + 1 : Nat) : Int) := by rw [IntWalk.i64_in _ (by omega)]; rfl
                  obtain ⟨x, hx⟩ : ∃ x, tk[i]? = some x := ⟨_, List.getElem?_eq_getElem (by omega)⟩
                  have hm := good_oks hg x (List.mem_of_getElem? hx)
                  obtain ⟨w, v⟩ := x
                  have hvl : v.length = 16 := hm.2.2.1
                  first | exact absurd htk (fun e => by simp [e] at hlt) | (
                    repeat' first
                        | with_reducible refine wp_regionS (seg_eval (by simp -dsimp -implicitDefEqProofs [zV_rest, avMk, cMk, hd, hd2, h64, hx, hvl]; rfl) ?_)
                        | with_reducible refine wp_region (seg_eval (by simp -dsimp -implicitDefEqProofs [zV_rest, avMk, cMk, hd, hd2, h64, hx, hvl]; rfl) ?_)
                        | with_reducible refine wp_drawsS (seg_eval (by simp -dsimp -implicitDefEqProofs [zV_rest, avMk, cMk, hd, hd2, h64, hx, hvl]; rfl) ?_)
                        | with_reducible refine wp_draws (seg_eval (by simp -dsimp -implicitDefEqProofs [zV_rest, avMk, cMk, hd, hd2, h64, hx, hvl]; rfl) ?_)
                        | with_reducible refine seg_fin ?_
                        | with_reducible refine seg_pan ?_
                        | with_reducible refine seg_both ?_ ?_
                        | with_reducible refine seg_case (fun x h => ?_) (fun h => ?_)
                        | with_reducible refine seg_gate (fun h => ?_) (fun h => ?_)
                        | with_reducible refine seg_need ?_ ?_
                        | with_reducible refine wp_assoc ?_ | with_reducible refine wp_skipS ?_ | with_reducible refine wp_retS ?_ | with_reducible refine wp_exitS ?_ | with_reducible refine wp_dropS (wp_eqT (by simp -dsimp -implicitDefEqProofs [zV_rest, avMk, cMk, hd, hd2, h64, hx, hvl]; rfl) ?_) | with_reducible refine wp_sealS (by simp -dsimp -implicitDefEqProofs [zV_rest, avMk, cMk, hd, hd2, h64, hx, hvl]; rfl) ?_ | with_reducible refine wp_seal (by simp -dsimp -implicitDefEqProofs [zV_rest, avMk, cMk, hd, hd2, h64, hx, hvl]; rfl) ?_ | with_reducible refine wp_closeS (by simp -dsimp -implicitDefEqProofs [zV_rest, avMk, cMk, hd, hd2, h64, hx, hvl]; rfl) ?_ | with_reducible refine wp_close (by simp -dsimp -implicitDefEqProofs [zV_rest, avMk, cMk, hd, hd2, h64, hx, hvl]; rfl) ?_ | with_reducible refine wp_conc_out ?_ | with_reducible refine wp_open_out ?_ | with_reducible refine wp_pack_out ?_ | with_reducible refine wp_blockS ?_ | with_reducible refine wp_skip' ?_ | with_reducible refine wp_ret' ?_ | with_reducible refine wp_exit' ?_ | with_reducible refine wp_drop (wp_eqT (by simp -dsimp -implicitDefEqProofs [zV_rest, avMk, cMk, hd, hd2, h64, hx, hvl]; rfl) ?_) | with_reducible refine wp_block' ?_
                        | with_reducible refine wp_condVS (by simp -dsimp -implicitDefEqProofs [zV_rest, avMk, cMk, hd, hd2, h64, hx, hvl]; rfl) ?_
                        | with_reducible refine wp_condV (by simp -dsimp -implicitDefEqProofs [zV_rest, avMk, cMk, hd, hd2, h64, hx, hvl]; rfl) ?_
                        | with_reducible refine cond_t ?_ | with_reducible refine cond_f ?_ | with_reducible refine cond_v (fun h => ?_) (fun h => ?_)
                        | with_reducible refine post_then ?_ | with_reducible refine post_thenE ?_ | with_reducible refine post_thenP ?_ | with_reducible refine post_blkP ?_ | with_reducible refine post_thenR ?_ | with_reducible refine post_blkN ?_ | with_reducible refine post_blkE ?_ | with_reducible refine post_blkF rfl ?_ | with_reducible refine post_blkR ?_
                        | with_reducible refine seg_eval (by simp -dsimp -implicitDefEqProofs [zV_rest, avMk, cMk, hd, hd2, h64, hx, hvl]; rfl) ?_
                    all_goals first
                      | omega
                      | exact ⟨j - 1, by omega, [], [0], rfl, rfl, i + 1, by omega, by simp [avMk, cMk], by simp⟩
                      | trace_state)
                · have hd : decide ((i : Int) < (tk.length : Int)) = false := by rw [decide_eq_false_iff_not]; omega
                  have hd2 : decide (i < tk.length) = false := by simp [hlt]
                  repeat' first
                      | with_reducible refine wp_regionS (seg_eval (by simp -dsimp -implicitDefEqProofs [hd, hd2]; rfl) ?_)
                      | with_reducible refine wp_region (seg_eval (by simp -dsimp -implicitDefEqProofs [hd, hd2]; rfl) ?_)
                      | with_reducible refine wp_drawsS (seg_eval (by simp -dsimp -implicitDefEqProofs [hd, hd2]; rfl) ?_)
                      | with_reducible refine wp_draws (seg_eval (by simp -dsimp -implicitDefEqProofs [hd, hd2]; rfl) ?_)
                      | with_reducible refine seg_fin ?_
                      | with_reducible refine seg_pan ?_
                      | with_reducible refine seg_both ?_ ?_
                      | with_reducible refine seg_case (fun x h => ?_) (fun h => ?_)
                      | with_reducible refine seg_gate (fun h => ?_) (fun h => ?_)
                      | with_reducible refine seg_need ?_ ?_
                      | with_reducible refine wp_assoc ?_ | with_reducible refine wp_skipS ?_ | with_reducible refine wp_retS ?_ | with_reducible refine wp_exitS ?_ | with_reducible refine wp_dropS (wp_eqT (by simp -dsimp -implicitDefEqProofs [hd, hd2]; rfl) ?_) | with_reducible refine wp_sealS (by simp -dsimp -implicitDefEqProofs [hd, hd2]; rfl) ?_ | with_reducible refine wp_seal (by simp -dsimp -implicitDefEqProofs [hd, hd2]; rfl) ?_ | with_reducible refine wp_closeS (by simp -dsimp -implicitDefEqProofs [hd, hd2]; rfl) ?_ | with_reducible refine wp_close (by simp -dsimp -implicitDefEqProofs [hd, hd2]; rfl) ?_ | with_reducible refine wp_conc_out ?_ | with_reducible refine wp_open_out ?_ | with_reducible refine wp_pack_out ?_ | with_reducible refine wp_blockS ?_ | with_reducible refine wp_skip' ?_ | with_reducible refine wp_ret' ?_ | with_reducible refine wp_exit' ?_ | with_reducible refine wp_drop (wp_eqT (by simp -dsimp -implicitDefEqProofs [hd, hd2]; rfl) ?_) | with_reducible refine wp_block' ?_
                      | with_reducible refine wp_condVS (by simp -dsimp -implicitDefEqProofs [hd, hd2]; rfl) ?_
                      | with_reducible refine wp_condV (by simp -dsimp -implicitDefEqProofs [hd, hd2]; rfl) ?_
                      | with_reducible refine cond_t ?_ | with_reducible refine cond_f ?_ | with_reducible refine cond_v (fun h => ?_) (fun h => ?_)
                      | with_reducible refine post_then ?_ | with_reducible refine post_thenE ?_ | with_reducible refine post_thenP ?_ | with_reducible refine post_blkP ?_ | with_reducible refine post_thenR ?_ | with_reducible refine post_blkN ?_ | with_reducible refine post_blkE ?_ | with_reducible refine post_blkF rfl ?_ | with_reducible refine post_blkR ?_
                      | with_reducible refine seg_eval (by simp -dsimp -implicitDefEqProofs [hd, hd2]; rfl) ?_
                  exact hW _ _ ⟨by simp, by simp⟩
              · rintro ts mm ⟨rfl, rfl⟩
                subst hb2
                repeat' first
                    | with_reducible refine wp_regionS (seg_eval (by simp -dsimp -implicitDefEqProofs [zV_rest, hO, heq, htl16]; rfl) ?_)
                    | with_reducible refine wp_region (seg_eval (by simp -dsimp -implicitDefEqProofs [zV_rest, hO, heq, htl16]; rfl) ?_)
                    | with_reducible refine wp_drawsS (seg_eval (by simp -dsimp -implicitDefEqProofs [zV_rest, hO, heq, htl16]; rfl) ?_)
                    | with_reducible refine wp_draws (seg_eval (by simp -dsimp -implicitDefEqProofs [zV_rest, hO, heq, htl16]; rfl) ?_)
                    | with_reducible refine seg_fin ?_
                    | with_reducible refine seg_pan ?_
                    | with_reducible refine seg_both ?_ ?_
                    | with_reducible refine seg_case (fun x h => ?_) (fun h => ?_)
                    | with_reducible refine seg_gate (fun h => ?_) (fun h => ?_)
                    | with_reducible refine seg_need ?_ ?_
                    | with_reducible refine wp_assoc ?_ | with_reducible refine wp_skipS ?_ | with_reducible refine wp_retS ?_ | with_reducible refine wp_exitS ?_ | with_reducible refine wp_dropS (wp_eqT (by simp -dsimp -implicitDefEqProofs [zV_rest, hO, heq, htl16]; rfl) ?_) | with_reducible refine wp_sealS (by simp -dsimp -implicitDefEqProofs [zV_rest, hO, heq, htl16]; rfl) ?_ | with_reducible refine wp_seal (by simp -dsimp -implicitDefEqProofs [zV_rest, hO, heq, htl16]; rfl) ?_ | with_reducible refine wp_closeS (by simp -dsimp -implicitDefEqProofs [zV_rest, hO, heq, htl16]; rfl) ?_ | with_reducible refine wp_close (by simp -dsimp -implicitDefEqProofs [zV_rest, hO, heq, htl16]; rfl) ?_ | with_reducible refine wp_conc_out ?_ | with_reducible refine wp_open_out ?_ | with_reducible refine wp_pack_out ?_ | with_reducible refine wp_blockS ?_ | with_reducible refine wp_skip' ?_ | with_reducible refine wp_ret' ?_ | with_reducible refine wp_exit' ?_ | with_reducible refine wp_drop (wp_eqT (by simp -dsimp -implicitDefEqProofs [zV_rest, hO, heq, htl16]; rfl) ?_) | with_reducible refine wp_block' ?_
                    | with_reducible refine wp_condVS (by simp -dsimp -implicitDefEqProofs [zV_rest, hO, heq, htl16]; rfl) ?_
                    | with_reducible refine wp_condV (by simp -dsimp -implicitDefEqProofs [zV_rest, hO, heq, htl16]; rfl) ?_
                    | with_reducible refine cond_t ?_ | with_reducible refine cond_f ?_ | with_reducible refine cond_v (fun h => ?_) (fun h => ?_)
                    | with_reducible refine post_then ?_ | with_reducible refine post_thenE ?_ | with_reducible refine post_thenP ?_ | with_reducible refine post_blkP ?_ | with_reducible refine post_thenR ?_ | with_reducible refine post_blkN ?_ | with_reducible refine post_blkE ?_ | with_reducible refine post_blkF rfl ?_ | with_reducible refine post_blkR ?_
                    | with_reducible refine seg_eval (by simp -dsimp -implicitDefEqProofs [zV_rest, hO, heq, htl16]; rfl) ?_
                all_goals first
                  | exact post_fin rfl rfl ⟨[], [], rfl, rfl, rfl, rfl⟩
                  | trace_state)
          · have hfm := hfm rfl
            repeat' first
                | with_reducible refine wp_regionS (seg_eval (by simp -dsimp -implicitDefEqProofs [zV_rest, hT, hC, hS, hO, heq, htl16]; rfl) ?_)
                | with_reducible refine wp_region (seg_eval (by simp -dsimp -implicitDefEqProofs [zV_rest, hT, hC, hS, hO, heq, htl16]; rfl) ?_)
                | with_reducible refine wp_drawsS (seg_eval (by simp -dsimp -implicitDefEqProofs [zV_rest, hT, hC, hS, hO, heq, htl16]; rfl) ?_)
                | with_reducible refine wp_draws (seg_eval (by simp -dsimp -implicitDefEqProofs [zV_rest, hT, hC, hS, hO, heq, htl16]; rfl) ?_)
                | with_reducible refine seg_fin ?_
                | with_reducible refine seg_pan ?_
                | with_reducible refine seg_both ?_ ?_
                | with_reducible refine seg_case (fun x h => ?_) (fun h => ?_)
                | with_reducible refine seg_gate (fun h => ?_) (fun h => ?_)
                | with_reducible refine seg_need ?_ ?_
                | with_reducible refine wp_assoc ?_ | with_reducible refine wp_skipS ?_ | with_reducible refine wp_retS ?_ | with_reducible refine wp_exitS ?_ | with_reducible refine wp_dropS (wp_eqT (by simp -dsimp -implicitDefEqProofs [zV_rest, hT, hC, hS, hO, heq, htl16]; rfl) ?_) | with_reducible refine wp_sealS (by simp -dsimp -implicitDefEqProofs [zV_rest, hT, hC, hS, hO, heq, htl16]; rfl) ?_ | with_reducible refine wp_seal (by simp -dsimp -implicitDefEqProofs [zV_rest, hT, hC, hS, hO, heq, htl16]; rfl) ?_ | with_reducible refine wp_closeS (by simp -dsimp -implicitDefEqProofs [zV_rest, hT, hC, hS, hO, heq, htl16]; rfl) ?_ | with_reducible refine wp_close (by simp -dsimp -implicitDefEqProofs [zV_rest, hT, hC, hS, hO, heq, htl16]; rfl) ?_ | with_reducible refine wp_conc_out ?_ | with_reducible refine wp_open_out ?_ | with_reducible refine wp_pack_out ?_ | with_reducible refine wp_blockS ?_ | with_reducible refine wp_skip' ?_ | with_reducible refine wp_ret' ?_ | with_reducible refine wp_exit' ?_ | with_reducible refine wp_drop (wp_eqT (by simp -dsimp -implicitDefEqProofs [zV_rest, hT, hC, hS, hO, heq, htl16]; rfl) ?_) | with_reducible refine wp_block' ?_
                | with_reducible refine wp_condVS (by simp -dsimp -implicitDefEqProofs [zV_rest, hT, hC, hS, hO, heq, htl16]; rfl) ?_
                | with_reducible refine wp_condV (by simp -dsimp -implicitDefEqProofs [zV_rest, hT, hC, hS, hO, heq, htl16]; rfl) ?_
                | with_reducible refine cond_t ?_ | with_reducible refine cond_f ?_ | with_reducible refine cond_v (fun h => ?_) (fun h => ?_)
                | with_reducible refine post_then ?_ | with_reducible refine post_thenE ?_ | with_reducible refine post_thenP ?_ | with_reducible refine post_blkP ?_ | with_reducible refine post_thenR ?_ | with_reducible refine post_blkN ?_ | with_reducible refine post_blkE ?_ | with_reducible refine post_blkF rfl ?_ | with_reducible refine post_blkR ?_
                | with_reducible refine seg_eval (by simp -dsimp -implicitDefEqProofs [zV_rest, hT, hC, hS, hO, heq, htl16]; rfl) ?_
            all_goals (
              refine wp_loopR (fun ts mm => ts = [(7, .ptr 0 0 0), (17, .fptr (.agg (vc t)) 0), (18, .v (.bool true))] ∧ mm = [ba2])
                (fun j ts mm => ∃ i : Nat, i + j = tk.length ∧ ts = [(7, .ptr 0 0 0), (17, .fptr (.agg (vc t)) 0), (18, .v (.bool true)), (102, t92), (103, .v (.int .i64 tk.length)), (104, .v (.int .i64 i))] ∧ mm = [ba2]) tk.length ?_ ?_ ?_
              · subst hb2 h92
                first
                  | (subst htk; exact ⟨[], [0], rfl, rfl, 0, by simp, by simp, by simp⟩)
                  | exact ⟨[], [0], rfl, rfl, 0, by omega, by simp, by simp⟩
              · rintro W hW j ts mm ⟨i, hi, rfl, rfl⟩
                subst hb2 h92
                by_cases hlt : i < tk.length
                · have hd : decide ((i : Int) < (tk.length : Int)) = true := by rw [decide_eq_true_eq]; omega
                  have hd2 : decide (i < tk.length) = true := by simp [hlt]
                  have h64 : IntKind.wrap .i64 ((i : Int) + 1) = ((i + 1 : Nat) : Int) := by rw [IntWalk.i64_in _ (by omega)]; rfl
                  obtain ⟨x, hx⟩ : ∃ x, tk[i]? = some x := ⟨_, List.getElem?_eq_getElem (by omega)⟩
                  have hm := good_oks hg x (List.mem_of_getElem? hx)
                  have hfx := hfm x (List.mem_of_getElem? hx)
                  obtain ⟨w, v⟩ := x
                  have hvl : v.length = 16 := hm.2.2.1
                  have hvo : okV v := hm.2.2
                  have hw0 : 0 ≤ w := hm.1
                  obtain ⟨w, rfl⟩ := Int.eq_ofNat_of_zero_le hw0
                  obtain ⟨hw16, hbl, x, y, hx1, hy1, hxy⟩ := hfx
                  simp only [Int.toNat_natCast] at hw16 hbl hx1 hy1
                  have hr : Int.tmod (w : Int) 16 = (w : Int) := Int.tmod_eq_of_lt (by omega) (by omega)
                  have ha1 := take_drop_one hx1
                  have ha2 := take_drop_one hy1
                  have ha3 := mc_at (k := (w : Int)) hx1
                  have hmt := mc_tail (k := (w : Int)) hvl
                  have hmp := mc_past (k := (w : Int)) hvl
                  have hw17 : w ≤ 15 := by omega
                  have hw18 : 1 + w ≤ 16 := by omega
                  have hle : decide ((y : Int) ≤ (x : Int)) = false := by rw [decide_eq_false_iff_not]; omega
                  have hle2 : decide (y ≤ x) = false := by simp; omega
                  first | exact absurd htk (fun e => by simp [e] at hlt) | (
                    repeat' first
                        | with_reducible refine wp_regionS (seg_eval (by simp -dsimp -implicitDefEqProofs [zV_rest, avMk, cMk, hd, hd2, h64, hx, hvl, hvo, hto, htl16, spBelow, unVc_vc, hbl, hr, ha1, ha2, ha3, hmt, hmp, hx1, hy1, hw16, hw17, hw18, hle, hle2]; rfl) ?_)
                        | with_reducible refine wp_region (seg_eval (by simp -dsimp -implicitDefEqProofs [zV_rest, avMk, cMk, hd, hd2, h64, hx, hvl, hvo, hto, htl16, spBelow, unVc_vc, hbl, hr, ha1, ha2, ha3, hmt, hmp, hx1, hy1, hw16, hw17, hw18, hle, hle2]; rfl) ?_)
                        | with_reducible refine wp_drawsS (seg_eval (by simp -dsimp -implicitDefEqProofs [zV_rest, avMk, cMk, hd, hd2, h64, hx, hvl, hvo, hto, htl16, spBelow, unVc_vc, hbl, hr, ha1, ha2, ha3, hmt, hmp, hx1, hy1, hw16, hw17, hw18, hle, hle2]; rfl) ?_)
                        | with_reducible refine wp_draws (seg_eval (by simp -dsimp -implicitDefEqProofs [zV_rest, avMk, cMk, hd, hd2, h64, hx, hvl, hvo, hto, htl16, spBelow, unVc_vc, hbl, hr, ha1, ha2, ha3, hmt, hmp, hx1, hy1, hw16, hw17, hw18, hle, hle2]; rfl) ?_)
                        | with_reducible refine seg_fin ?_
                        | with_reducible refine seg_pan ?_
                        | with_reducible refine seg_both ?_ ?_
                        | with_reducible refine seg_case (fun x h => ?_) (fun h => ?_)
                        | with_reducible refine seg_gate (fun h => ?_) (fun h => ?_)
                        | with_reducible refine seg_need ?_ ?_
                        | with_reducible refine wp_assoc ?_ | with_reducible refine wp_skipS ?_ | with_reducible refine wp_retS ?_ | with_reducible refine wp_exitS ?_ | with_reducible refine wp_dropS (wp_eqT (by simp -dsimp -implicitDefEqProofs [zV_rest, avMk, cMk, hd, hd2, h64, hx, hvl, hvo, hto, htl16, spBelow, unVc_vc, hbl, hr, ha1, ha2, ha3, hmt, hmp, hx1, hy1, hw16, hw17, hw18, hle, hle2]; rfl) ?_) | with_reducible refine wp_sealS (by simp -dsimp -implicitDefEqProofs [zV_rest, avMk, cMk, hd, hd2, h64, hx, hvl, hvo, hto, htl16, spBelow, unVc_vc, hbl, hr, ha1, ha2, ha3, hmt, hmp, hx1, hy1, hw16, hw17, hw18, hle, hle2]; rfl) ?_ | with_reducible refine wp_seal (by simp -dsimp -implicitDefEqProofs [zV_rest, avMk, cMk, hd, hd2, h64, hx, hvl, hvo, hto, htl16, spBelow, unVc_vc, hbl, hr, ha1, ha2, ha3, hmt, hmp, hx1, hy1, hw16, hw17, hw18, hle, hle2]; rfl) ?_ | with_reducible refine wp_closeS (by simp -dsimp -implicitDefEqProofs [zV_rest, avMk, cMk, hd, hd2, h64, hx, hvl, hvo, hto, htl16, spBelow, unVc_vc, hbl, hr, ha1, ha2, ha3, hmt, hmp, hx1, hy1, hw16, hw17, hw18, hle, hle2]; rfl) ?_ | with_reducible refine wp_close (by simp -dsimp -implicitDefEqProofs [zV_rest, avMk, cMk, hd, hd2, h64, hx, hvl, hvo, hto, htl16, spBelow, unVc_vc, hbl, hr, ha1, ha2, ha3, hmt, hmp, hx1, hy1, hw16, hw17, hw18, hle, hle2]; rfl) ?_ | with_reducible refine wp_conc_out ?_ | with_reducible refine wp_open_out ?_ | with_reducible refine wp_pack_out ?_ | with_reducible refine wp_blockS ?_ | with_reducible refine wp_skip' ?_ | with_reducible refine wp_ret' ?_ | with_reducible refine wp_exit' ?_ | with_reducible refine wp_drop (wp_eqT (by simp -dsimp -implicitDefEqProofs [zV_rest, avMk, cMk, hd, hd2, h64, hx, hvl, hvo, hto, htl16, spBelow, unVc_vc, hbl, hr, ha1, ha2, ha3, hmt, hmp, hx1, hy1, hw16, hw17, hw18, hle, hle2]; rfl) ?_) | with_reducible refine wp_block' ?_
                        | with_reducible refine wp_condVS (by simp -dsimp -implicitDefEqProofs [zV_rest, avMk, cMk, hd, hd2, h64, hx, hvl, hvo, hto, htl16, spBelow, unVc_vc, hbl, hr, ha1, ha2, ha3, hmt, hmp, hx1, hy1, hw16, hw17, hw18, hle, hle2]; rfl) ?_
                        | with_reducible refine wp_condV (by simp -dsimp -implicitDefEqProofs [zV_rest, avMk, cMk, hd, hd2, h64, hx, hvl, hvo, hto, htl16, spBelow, unVc_vc, hbl, hr, ha1, ha2, ha3, hmt, hmp, hx1, hy1, hw16, hw17, hw18, hle, hle2]; rfl) ?_
                        | with_reducible refine cond_t ?_ | with_reducible refine cond_f ?_ | with_reducible refine cond_v (fun h => ?_) (fun h => ?_)
                        | with_reducible refine post_then ?_ | with_reducible refine post_thenE ?_ | with_reducible refine post_thenP ?_ | with_reducible refine post_blkP ?_ | with_reducible refine post_thenR ?_ | with_reducible refine post_blkN ?_ | with_reducible refine post_blkE ?_ | with_reducible refine post_blkF rfl ?_ | with_reducible refine post_blkR ?_
                        | with_reducible refine seg_eval (by simp -dsimp -implicitDefEqProofs [zV_rest, avMk, cMk, hd, hd2, h64, hx, hvl, hvo, hto, htl16, spBelow, unVc_vc, hbl, hr, ha1, ha2, ha3, hmt, hmp, hx1, hy1, hw16, hw17, hw18, hle, hle2]; rfl) ?_
                    all_goals first
                      | omega
                      | exact ⟨j - 1, by omega, [], [0], rfl, rfl, i + 1, by omega, by simp [avMk, cMk], by simp⟩
                      | trace_state)
                · have hd : decide ((i : Int) < (tk.length : Int)) = false := by rw [decide_eq_false_iff_not]; omega
                  have hd2 : decide (i < tk.length) = false := by simp [hlt]
                  repeat' first
                      | with_reducible refine wp_regionS (seg_eval (by simp -dsimp -implicitDefEqProofs [hd, hd2]; rfl) ?_)
                      | with_reducible refine wp_region (seg_eval (by simp -dsimp -implicitDefEqProofs [hd, hd2]; rfl) ?_)
                      | with_reducible refine wp_drawsS (seg_eval (by simp -dsimp -implicitDefEqProofs [hd, hd2]; rfl) ?_)
                      | with_reducible refine wp_draws (seg_eval (by simp -dsimp -implicitDefEqProofs [hd, hd2]; rfl) ?_)
                      | with_reducible refine seg_fin ?_
                      | with_reducible refine seg_pan ?_
                      | with_reducible refine seg_both ?_ ?_
                      | with_reducible refine seg_case (fun x h => ?_) (fun h => ?_)
                      | with_reducible refine seg_gate (fun h => ?_) (fun h => ?_)
                      | with_reducible refine seg_need ?_ ?_
                      | with_reducible refine wp_assoc ?_ | with_reducible refine wp_skipS ?_ | with_reducible refine wp_retS ?_ | with_reducible refine wp_exitS ?_ | with_reducible refine wp_dropS (wp_eqT (by simp -dsimp -implicitDefEqProofs [hd, hd2]; rfl) ?_) | with_reducible refine wp_sealS (by simp -dsimp -implicitDefEqProofs [hd, hd2]; rfl) ?_ | with_reducible refine wp_seal (by simp -dsimp -implicitDefEqProofs [hd, hd2]; rfl) ?_ | with_reducible refine wp_closeS (by simp -dsimp -implicitDefEqProofs [hd, hd2]; rfl) ?_ | with_reducible refine wp_close (by simp -dsimp -implicitDefEqProofs [hd, hd2]; rfl) ?_ | with_reducible refine wp_conc_out ?_ | with_reducible refine wp_open_out ?_ | with_reducible refine wp_pack_out ?_ | with_reducible refine wp_blockS ?_ | with_reducible refine wp_skip' ?_ | with_reducible refine wp_ret' ?_ | with_reducible refine wp_exit' ?_ | with_reducible refine wp_drop (wp_eqT (by simp -dsimp -implicitDefEqProofs [hd, hd2]; rfl) ?_) | with_reducible refine wp_block' ?_
                      | with_reducible refine wp_condVS (by simp -dsimp -implicitDefEqProofs [hd, hd2]; rfl) ?_
                      | with_reducible refine wp_condV (by simp -dsimp -implicitDefEqProofs [hd, hd2]; rfl) ?_
                      | with_reducible refine cond_t ?_ | with_reducible refine cond_f ?_ | with_reducible refine cond_v (fun h => ?_) (fun h => ?_)
                      | with_reducible refine post_then ?_ | with_reducible refine post_thenE ?_ | with_reducible refine post_thenP ?_ | with_reducible refine post_blkP ?_ | with_reducible refine post_thenR ?_ | with_reducible refine post_blkN ?_ | with_reducible refine post_blkE ?_ | with_reducible refine post_blkF rfl ?_ | with_reducible refine post_blkR ?_
                      | with_reducible refine seg_eval (by simp -dsimp -implicitDefEqProofs [hd, hd2]; rfl) ?_
                  exact hW _ _ ⟨by simp, by simp⟩
              · rintro ts mm ⟨rfl, rfl⟩
                subst hb2
                repeat' first
                    | with_reducible refine wp_regionS (seg_eval (by simp -dsimp -implicitDefEqProofs [zV_rest, hO, heq, htl16]; rfl) ?_)
                    | with_reducible refine wp_region (seg_eval (by simp -dsimp -implicitDefEqProofs [zV_rest, hO, heq, htl16]; rfl) ?_)
                    | with_reducible refine wp_drawsS (seg_eval (by simp -dsimp -implicitDefEqProofs [zV_rest, hO, heq, htl16]; rfl) ?_)
                    | with_reducible refine wp_draws (seg_eval (by simp -dsimp -implicitDefEqProofs [zV_rest, hO, heq, htl16]; rfl) ?_)
                    | with_reducible refine seg_fin ?_
                    | with_reducible refine seg_pan ?_
                    | with_reducible refine seg_both ?_ ?_
                    | with_reducible refine seg_case (fun x h => ?_) (fun h => ?_)
                    | with_reducible refine seg_gate (fun h => ?_) (fun h => ?_)
                    | with_reducible refine seg_need ?_ ?_
                    | with_reducible refine wp_assoc ?_ | with_reducible refine wp_skipS ?_ | with_reducible refine wp_retS ?_ | with_reducible refine wp_exitS ?_ | with_reducible refine wp_dropS (wp_eqT (by simp -dsimp -implicitDefEqProofs [zV_rest, hO, heq, htl16]; rfl) ?_) | with_reducible refine wp_sealS (by simp -dsimp -implicitDefEqProofs [zV_rest, hO, heq, htl16]; rfl) ?_ | with_reducible refine wp_seal (by simp -dsimp -implicitDefEqProofs [zV_rest, hO, heq, htl16]; rfl) ?_ | with_reducible refine wp_closeS (by simp -dsimp -implicitDefEqProofs [zV_rest, hO, heq, htl16]; rfl) ?_ | with_reducible refine wp_close (by simp -dsimp -implicitDefEqProofs [zV_rest, hO, heq, htl16]; rfl) ?_ | with_reducible refine wp_conc_out ?_ | with_reducible refine wp_open_out ?_ | with_reducible refine wp_pack_out ?_ | with_reducible refine wp_blockS ?_ | with_reducible refine wp_skip' ?_ | with_reducible refine wp_ret' ?_ | with_reducible refine wp_exit' ?_ | with_reducible refine wp_drop (wp_eqT (by simp -dsimp -implicitDefEqProofs [zV_rest, hO, heq, htl16]; rfl) ?_) | with_reducible refine wp_block' ?_
                    | with_reducible refine wp_condVS (by simp -dsimp -implicitDefEqProofs [zV_rest, hO, heq, htl16]; rfl) ?_
                    | with_reducible refine wp_condV (by simp -dsimp -implicitDefEqProofs [zV_rest, hO, heq, htl16]; rfl) ?_
                    | with_reducible refine cond_t ?_ | with_reducible refine cond_f ?_ | with_reducible refine cond_v (fun h => ?_) (fun h => ?_)
                    | with_reducible refine post_then ?_ | with_reducible refine post_thenE ?_ | with_reducible refine post_thenP ?_ | with_reducible refine post_blkP ?_ | with_reducible refine post_thenR ?_ | with_reducible refine post_blkN ?_ | with_reducible refine post_blkE ?_ | with_reducible refine post_blkF rfl ?_ | with_reducible refine post_blkR ?_
                    | with_reducible refine seg_eval (by simp -dsimp -implicitDefEqProofs [zV_rest, hO, heq, htl16]; rfl) ?_
                all_goals first
                  | exact post_fin rfl rfl ⟨[], [], rfl, rfl, rfl, rfl⟩
                  | trace_state))))
end Go.Proofs.Ytbponegjfccgfaa.Am
