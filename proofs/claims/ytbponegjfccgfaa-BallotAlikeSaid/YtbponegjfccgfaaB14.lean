/-
  OF TWO BOXES OF ONE VIEW, no two unlike changes are chosen.
-/
import Derived.Test.YtbponegjfccgfaaBPL
import Derived.Test.YtbponegjfccgfaaCodeA
namespace Go.Proofs.Ytbponegjfccgfaa.Am
set_option linter.unusedSimpArgs false
set_option linter.unusedVariables false
open Go Go.Proofs
attribute [local irreducible] wpA
attribute [-simp] splice

theorem inv_box {v : Int} {m : Nat} {l : List Ct} (h : InvB v m l) : boxB v m l = rightV v m := by
  rcases h with h | rfl
  · rw [h, (box_iff.1 h).1]
  · cases hr : rightV v m
    · exact box_no fun hF => by rw [hF.1] at hr; cases hr
    · exact box_yes ⟨hr, fun k c hk => by simp at hk⟩
theorem isK_true {t : Int} {l : List Ct} : isK' keyCt t l = true ↔ ∃ x ∈ l, x.who = t := by
  unfold isK'
  rw [List.any_eq_true]
  constructor
  · rintro ⟨x, hx, h⟩; exact ⟨x, hx, by simpa [keyCt] using h⟩
  · rintro ⟨x, hx, h⟩; exact ⟨x, hx, by simpa [keyCt] using h⟩
/-- What the second box has is the corrupt ones', or the first box has it; whoever is in the first box is in the second. -/
def InvA (v : Int) (m : Nat) (O A B : List Ct) : Prop := InvB v m A ∧ InvB v m B ∧ (∀ c ∈ B, c ∈ O ∨ c ∈ A) ∧ ∀ c ∈ A, isK' keyCt c.who B = true
theorem invA_start {v : Int} {m : Nat} {O : List Ct} (h : InvB v m O) : InvA v m O [] O := ⟨.inr rfl, h, fun _ hc => .inl hc, fun _ hc => by simp at hc⟩
theorem put_sub {v : Int} {m : Nat} {l : List Ct} {c y : Ct} (h : y ∈ l) : y ∈ (putC v m l c).1 := by
  by_cases hz : (putC v m l c).2 = 0
  · rw [putC_yes hz]; exact mem_insK.2 (.inr h)
  · rw [putC_not hz]; exact h
theorem invA_put {v : Int} {m : Nat} {O A B : List Ct} (h : InvA v m O A B) (c : Ct) : InvA v m O (putC v m A c).1 (putC v m B c).1 := by
  obtain ⟨hA, hB, h1, h2⟩ := h
  have eA := inv_box hA
  have eB := inv_box hB
  refine ⟨inv_put hA c, inv_put hB c, fun x hx => ?_, fun x hx => ?_⟩
  · by_cases hz : (putC v m B c).2 = 0
    · obtain ⟨b1, b2, b3, b4⟩ := putC_zero.1 hz
      have hkA : isK' keyCt c.who A = false := by
        cases hk : isK' keyCt c.who A
        · rfl
        · obtain ⟨y, hy, hw⟩ := isK_true.1 hk
          have := h2 y hy
          rw [hw, b3] at this
          exact absurd this (by simp)
      have hzA : (putC v m A c).2 = 0 := putC_zero.2 ⟨by rw [eA, ← eB]; exact b1, b2, hkA, b4⟩
      rw [putC_yes hz] at hx
      rcases mem_insK.1 hx with rfl | hx
      · right; rw [putC_yes hzA]; exact mem_insK.2 (.inl rfl)
      · rcases h1 x hx with h | h
        · exact .inl h
        · exact .inr (put_sub h)
    · rw [putC_not hz] at hx
      rcases h1 x hx with h | h
      · exact .inl h
      · exact .inr (put_sub h)
  · have old : x ∈ A → isK' keyCt x.who (putC v m B c).1 = true := fun hx => by
      obtain ⟨y, hy, hw⟩ := isK_true.1 (h2 x hx)
      exact isK_true.2 ⟨y, put_sub hy, hw⟩
    by_cases hz : (putC v m A c).2 = 0
    · obtain ⟨b1, b2, b3, b4⟩ := putC_zero.1 hz
      rw [putC_yes hz] at hx
      rcases mem_insK.1 hx with rfl | hx
      · by_cases hzB : (putC v m B x).2 = 0
        · rw [putC_yes hzB]; exact isK_true.2 ⟨x, mem_insK.2 (.inl rfl), rfl⟩
        · rw [putC_not hzB]
          cases hk : isK' keyCt x.who B
          · exact absurd (putC_zero.2 ⟨by rw [eB, ← eA]; exact b1, b2, hk, b4⟩) hzB
          · rfl
      · exact old hx
    · rw [putC_not hz] at hx
      exact old hx
theorem size_with (s i : Nat) : sizeS (withS s i) ≤ sizeS s + 1 := by
  have h := cnt_or (A := withS s i) (B := s) (C := bitS i) 16 fun j _ hj => by
    rw [has_with] at hj
    rw [has_bit]
    simpa using hj
  have hb : sizeS (bitS i) ≤ 1 := by
    by_cases h16 : i < 16
    · have : ∀ k : Fin 16, sizeS (bitS k.val) ≤ 1 := by decide +kernel
      exact this ⟨i, h16⟩
    · have e : bitS i = 0 := by unfold bitS; rw [if_neg h16]
      rw [e]; decide
  rw [size_cnt] at hb
  rw [size_cnt, size_cnt]
  omega
theorem size_for' : ∀ (l : List Ct) (a : Bool) (d : Int) (z : Nat), sizeS (l.foldl (fun s x => if x.add = a ∧ x.id = d then withS s x.who.toNat else s) z) ≤ sizeS z + l.length
  | [], _, _, z => by simp
  | x :: l, a, d, z => by
    simp only [List.foldl_cons, List.length_cons]
    refine Nat.le_trans (size_for' l a d _) ?_
    split
    · have := size_with z x.who.toNat; omega
    · omega
theorem size_for (l : List Ct) (a : Bool) (d : Int) : sizeS (forS l a d) ≤ l.length := by
  have := size_for' l a d 0
  have h0 : sizeS 0 = 0 := by decide
  unfold forS
  omega
/-- No two unlike changes are chosen. -/
theorem alike {v : Int} {m : Nat} {O A B : List Ct} (hm : m < 65536) (h : InvA v m O A B) (hA : ∀ y ∈ A, okCt y) (hB : ∀ y ∈ B, okCt y) (ho : (O.length : Int) ≤ faultyS (sizeS m))
    (h1 : (chosenC v m A).2 = true) (h2 : (chosenC v m B).2 = true) : (chosenC v m A).1 = (chosenC v m B).1 := by
  obtain ⟨a1, c, hc, ec, gc⟩ := chosen_some hm h.1 hA h1
  obtain ⟨b1, e, he, ee, ge⟩ := chosen_some hm h.2.1 hB h2
  rw [ec, ee]
  by_cases hne : c.add = e.add ∧ c.id = e.id
  · simp [hne.1, hne.2]
  · exfalso
    unfold goodC forC at gc ge
    rw [if_pos a1, decide_eq_true_eq] at gc
    rw [if_pos b1, decide_eq_true_eq] at ge
    have hs := cnt_two (A := forS A c.add c.id) (B := forS A e.add e.id) (M := m) 16 (fun i _ h => for_two a1 hA hne i h) (fun i _ h => for_mem a1 i h)
    have ht := cnt_or (A := forS B e.add e.id) (B := forS O e.add e.id) (C := forS A e.add e.id) 16 fun i _ hi => by
      obtain ⟨h16, y, hy, hh⟩ := has_forS.1 hi
      rcases h.2.2.1 y hy with h | h
      · exact .inl (has_forS.2 ⟨h16, y, h, hh⟩)
      · exact .inr (has_forS.2 ⟨h16, y, h, hh⟩)
    have hO := size_for O e.add e.id
    rw [← size_cnt, ← size_cnt, ← size_cnt] at hs ht
    have h0 := (right_v.1 (box_iff.1 a1).1).2.2
    have hn := echoes_more (size_pos hm h0) (size_le m)
    omega

noncomputable def spBallotAlike : Spec := spc (X := Int × Nat × List Ct × List Ct) (fun p => ([.agg [.v (.int .i64 p.1), .v (.int .u16 (p.2.1 : Nat))], .fsl 3 (p.2.2.1.map avCt), .fsl 3 (p.2.2.2.map avCt)], []))
  (fun p => p.2.1 < 65536 ∧ (∀ y ∈ p.2.2.1, okCt y) ∧ (∀ y ∈ p.2.2.2, okCt y)) (fun _ => (.ret (.v (.bool true)), []))
def flA (v : Int) (m : Nat) (l : List Ct) (b : Blk) : Prop := (l = [] ∧ b = .var [.v (.int .i64 v), .v (.int .u16 (m : Nat)), .v (.slice none 0 0)]) ∨ b = .var [.v (.int .i64 v), .v (.int .u16 (m : Nat)), .fsl 3 (l.map avCt)]

set_option maxHeartbeats 40000000 in
theorem ballotAlike_ok : CallOk Try.prog 11 spBallotAlike := by
  refine okp_11 (Env.put_ok [] (Env.put_ok [] (Env.put_ok [] (Env.put_ok [] (Env.put_ok [] (Env.put_ok [] (Env.none_ok _) alive12_ok) theirs1_ok) (CallOk.fixD [.agg [.no, .no, .k 3]] putC_ok)) (CallOk.fixD [.agg [.no, .no, .k 3]] chosen_ok)) sizeR_ok) faultyR_ok) spBallotAlike (wb_spc ?_)
  rintro ⟨v, m, ms, os⟩ ⟨hm, hms, hos⟩
  simp only at hm hms hos ⊢
  have hml : (m : Int) < 65536 := by omega
  have hse := size_le m
  unfold acp_11
  repeat' with_reducible first
    | refine wp_regionS (seg_eval (by simp -dsimp -implicitDefEqProofs [spAliveB]; rfl) ?_)
    | refine wp_region (seg_eval (by simp -dsimp -implicitDefEqProofs [spAliveB]; rfl) ?_)
    | refine seg_fin ?_
    | refine seg_pan ?_
    | refine seg_both ?_ ?_
    | refine seg_case (fun x h => ?_) (fun h => ?_)
    | refine seg_gate (fun h => ?_) (fun h => ?_)
    | refine seg_need ?_ ?_
    | refine wp_assoc ?_ | refine wp_skipS ?_ | refine wp_retS ?_ | refine wp_exitS ?_ | refine wp_dropS (wp_eqT (by simp -dsimp -implicitDefEqProofs; rfl) ?_) | refine wp_sealS (by simp -dsimp -implicitDefEqProofs; rfl) ?_ | refine wp_seal (by simp -dsimp -implicitDefEqProofs; rfl) ?_ | refine wp_pack_out ?_ | refine wp_blockS ?_ | refine wp_skip' ?_ | refine wp_ret' ?_ | refine wp_exit' ?_ | refine wp_drop (wp_eqT (by simp -dsimp -implicitDefEqProofs; rfl) ?_) | refine wp_block' ?_
    | refine wp_condVS (by simp -dsimp -implicitDefEqProofs; rfl) ?_
    | refine wp_condV (by simp -dsimp -implicitDefEqProofs; rfl) ?_
    | refine cond_t ?_ | refine cond_f ?_ | refine cond_v (fun h => ?_) (fun h => ?_)
    | refine post_then ?_ | refine post_thenE ?_ | refine post_thenP ?_ | refine post_blkP ?_ | refine post_thenR ?_ | refine post_blkN ?_ | refine post_blkE ?_ | refine post_blkF rfl ?_ | refine post_blkR ?_
    | refine seg_eval (by simp -dsimp -implicitDefEqProofs [spAliveB]; rfl) ?_
  refine wp_drawsR (fun ts mm => ts = [(1, .fsl 3 (ms.map avCt)), (2, .fsl 3 (os.map avCt)), (3, .fptr (.agg [.v (.int .i64 v), .v (.int .u16 (m : Nat))]) 0), (7, .ptr 0 0 0), (8, .ptr 1 0 0)] ∧ mm = [.var [.v (.int .i64 v), .v (.int .u16 (m : Nat)), .v (.slice none 0 0)], .var [.v (.int .i64 v), .v (.int .u16 (m : Nat)), .v (.slice none 0 0)]]) ?_ ?_
  · intro W hW
    repeat' with_reducible first
      | refine wp_regionS (seg_eval (by simp -dsimp -implicitDefEqProofs [spAliveB]; rfl) ?_)
      | refine wp_region (seg_eval (by simp -dsimp -implicitDefEqProofs [spAliveB]; rfl) ?_)
      | refine wp_drawsS (seg_eval (by simp -dsimp -implicitDefEqProofs [spAliveB]; rfl) ?_)
      | refine wp_draws (seg_eval (by simp -dsimp -implicitDefEqProofs [spAliveB]; rfl) ?_)
      | refine seg_fin ?_
      | refine seg_pan ?_
      | refine seg_both ?_ ?_
      | refine seg_case (fun x h => ?_) (fun h => ?_)
      | refine seg_gate (fun h => ?_) (fun h => ?_)
      | refine seg_need ?_ ?_
      | refine wp_assoc ?_ | refine wp_skipS ?_ | refine wp_retS ?_ | refine wp_exitS ?_ | refine wp_dropS (wp_eqT (by simp -dsimp -implicitDefEqProofs; rfl) ?_) | refine wp_sealS (by simp -dsimp -implicitDefEqProofs; rfl) ?_ | refine wp_seal (by simp -dsimp -implicitDefEqProofs; rfl) ?_ | refine wp_pack_out ?_ | refine wp_blockS ?_ | refine wp_skip' ?_ | refine wp_ret' ?_ | refine wp_exit' ?_ | refine wp_drop (wp_eqT (by simp -dsimp -implicitDefEqProofs; rfl) ?_) | refine wp_block' ?_
      | refine wp_condVS (by simp -dsimp -implicitDefEqProofs; rfl) ?_
      | refine wp_condV (by simp -dsimp -implicitDefEqProofs; rfl) ?_
      | refine cond_t ?_ | refine cond_f ?_ | refine cond_v (fun h => ?_) (fun h => ?_)
      | refine post_then ?_ | refine post_thenE ?_ | refine post_thenP ?_ | refine post_blkP ?_ | refine post_thenR ?_ | refine post_blkN ?_ | refine post_blkE ?_ | refine post_blkF rfl ?_ | refine post_blkR ?_
      | refine seg_eval (by simp -dsimp -implicitDefEqProofs [spAliveB]; rfl) ?_
    all_goals first
      | (refine hW _ _ ⟨[], [1, 2], rfl, rfl, ?_, ?_⟩
         · simp; done
         · simp; done)
      | (refine hW _ _ ⟨[], [2, 1], rfl, rfl, ?_, ?_⟩
         · simp; done
         · simp; done)
      | trace_state
  rintro ts mm ⟨rfl, rfl⟩
  by_cases h1 : 60 < ms.length
  · have c1 : decide ((60 : Int) < (ms.length : Int)) = true := by rw [decide_eq_true_eq]; omega
    have c2 : decide (60 < ms.length) = true := by simp [h1]
    repeat' with_reducible first
      | refine wp_regionS (seg_eval (by simp -dsimp -implicitDefEqProofs [c1, c2]; rfl) ?_)
      | refine wp_region (seg_eval (by simp -dsimp -implicitDefEqProofs [c1, c2]; rfl) ?_)
      | refine wp_drawsS (seg_eval (by simp -dsimp -implicitDefEqProofs [c1, c2]; rfl) ?_)
      | refine wp_draws (seg_eval (by simp -dsimp -implicitDefEqProofs [c1, c2]; rfl) ?_)
      | refine seg_fin ?_
      | refine seg_pan ?_
      | refine seg_both ?_ ?_
      | refine seg_case (fun x h => ?_) (fun h => ?_)
      | refine seg_gate (fun h => ?_) (fun h => ?_)
      | refine seg_need ?_ ?_
      | refine wp_assoc ?_ | refine wp_skipS ?_ | refine wp_retS ?_ | refine wp_exitS ?_ | refine wp_dropS (wp_eqT (by simp -dsimp -implicitDefEqProofs; rfl) ?_) | refine wp_sealS (by simp -dsimp -implicitDefEqProofs; rfl) ?_ | refine wp_seal (by simp -dsimp -implicitDefEqProofs; rfl) ?_ | refine wp_pack_out ?_ | refine wp_blockS ?_ | refine wp_skip' ?_ | refine wp_ret' ?_ | refine wp_exit' ?_ | refine wp_drop (wp_eqT (by simp -dsimp -implicitDefEqProofs; rfl) ?_) | refine wp_block' ?_
      | refine wp_condVS (by simp -dsimp -implicitDefEqProofs; rfl) ?_
      | refine wp_condV (by simp -dsimp -implicitDefEqProofs; rfl) ?_
      | refine cond_t ?_ | refine cond_f ?_ | refine cond_v (fun h => ?_) (fun h => ?_)
      | refine post_then ?_ | refine post_thenE ?_ | refine post_thenP ?_ | refine post_blkP ?_ | refine post_thenR ?_ | refine post_blkN ?_ | refine post_blkE ?_ | refine post_blkF rfl ?_ | refine post_blkR ?_
      | refine seg_eval (by simp -dsimp -implicitDefEqProofs [c1, c2]; rfl) ?_
    all_goals first
      | exact post_fin rfl rfl ⟨[], [], rfl, rfl, rfl, rfl⟩
      | trace_state
  have c1 : decide ((60 : Int) < (ms.length : Int)) = false := by rw [decide_eq_false_iff_not]; omega
  have c2 : decide (60 < ms.length) = false := by simp; omega
  by_cases h2 : 60 < os.length
  · have d1 : decide ((60 : Int) < (os.length : Int)) = true := by rw [decide_eq_true_eq]; omega
    have d2 : decide (60 < os.length) = true := by simp [h2]
    repeat' with_reducible first
      | refine wp_regionS (seg_eval (by simp -dsimp -implicitDefEqProofs [c1, c2, d1, d2]; rfl) ?_)
      | refine wp_region (seg_eval (by simp -dsimp -implicitDefEqProofs [c1, c2, d1, d2]; rfl) ?_)
      | refine wp_drawsS (seg_eval (by simp -dsimp -implicitDefEqProofs [c1, c2, d1, d2]; rfl) ?_)
      | refine wp_draws (seg_eval (by simp -dsimp -implicitDefEqProofs [c1, c2, d1, d2]; rfl) ?_)
      | refine seg_fin ?_
      | refine seg_pan ?_
      | refine seg_both ?_ ?_
      | refine seg_case (fun x h => ?_) (fun h => ?_)
      | refine seg_gate (fun h => ?_) (fun h => ?_)
      | refine seg_need ?_ ?_
      | refine wp_assoc ?_ | refine wp_skipS ?_ | refine wp_retS ?_ | refine wp_exitS ?_ | refine wp_dropS (wp_eqT (by simp -dsimp -implicitDefEqProofs; rfl) ?_) | refine wp_sealS (by simp -dsimp -implicitDefEqProofs; rfl) ?_ | refine wp_seal (by simp -dsimp -implicitDefEqProofs; rfl) ?_ | refine wp_pack_out ?_ | refine wp_blockS ?_ | refine wp_skip' ?_ | refine wp_ret' ?_ | refine wp_exit' ?_ | refine wp_drop (wp_eqT (by simp -dsimp -implicitDefEqProofs; rfl) ?_) | refine wp_block' ?_
      | refine wp_condVS (by simp -dsimp -implicitDefEqProofs; rfl) ?_
      | refine wp_condV (by simp -dsimp -implicitDefEqProofs; rfl) ?_
      | refine cond_t ?_ | refine cond_f ?_ | refine cond_v (fun h => ?_) (fun h => ?_)
      | refine post_then ?_ | refine post_thenE ?_ | refine post_thenP ?_ | refine post_blkP ?_ | refine post_thenR ?_ | refine post_blkN ?_ | refine post_blkE ?_ | refine post_blkF rfl ?_ | refine post_blkR ?_
      | refine seg_eval (by simp -dsimp -implicitDefEqProofs [c1, c2, d1, d2]; rfl) ?_
    all_goals first
      | exact post_fin rfl rfl ⟨[], [], rfl, rfl, rfl, rfl⟩
      | trace_state
  have d1 : decide ((60 : Int) < (os.length : Int)) = false := by rw [decide_eq_false_iff_not]; omega
  have d2 : decide (60 < os.length) = false := by simp; omega
  repeat' with_reducible first
    | refine wp_regionS (seg_eval (by simp -dsimp -implicitDefEqProofs [c1, c2, d1, d2]; rfl) ?_)
    | refine wp_region (seg_eval (by simp -dsimp -implicitDefEqProofs [c1, c2, d1, d2]; rfl) ?_)
    | refine wp_drawsS (seg_eval (by simp -dsimp -implicitDefEqProofs [c1, c2, d1, d2]; rfl) ?_)
    | refine wp_draws (seg_eval (by simp -dsimp -implicitDefEqProofs [c1, c2, d1, d2]; rfl) ?_)
    | refine seg_fin ?_
    | refine seg_pan ?_
    | refine seg_both ?_ ?_
    | refine seg_case (fun x h => ?_) (fun h => ?_)
    | refine seg_gate (fun h => ?_) (fun h => ?_)
    | refine seg_need ?_ ?_
    | refine wp_assoc ?_ | refine wp_skipS ?_ | refine wp_retS ?_ | refine wp_exitS ?_ | refine wp_dropS (wp_eqT (by simp -dsimp -implicitDefEqProofs; rfl) ?_) | refine wp_sealS (by simp -dsimp -implicitDefEqProofs; rfl) ?_ | refine wp_seal (by simp -dsimp -implicitDefEqProofs; rfl) ?_ | refine wp_pack_out ?_ | refine wp_blockS ?_ | refine wp_skip' ?_ | refine wp_ret' ?_ | refine wp_exit' ?_ | refine wp_drop (wp_eqT (by simp -dsimp -implicitDefEqProofs; rfl) ?_) | refine wp_block' ?_
    | refine wp_condVS (by simp -dsimp -implicitDefEqProofs; rfl) ?_
    | refine wp_condV (by simp -dsimp -implicitDefEqProofs; rfl) ?_
    | refine cond_t ?_ | refine cond_f ?_ | refine cond_v (fun h => ?_) (fun h => ?_)
    | refine post_then ?_ | refine post_thenE ?_ | refine post_thenP ?_ | refine post_blkP ?_ | refine post_thenR ?_ | refine post_blkN ?_ | refine post_blkE ?_ | refine post_blkF rfl ?_ | refine post_blkR ?_
    | refine seg_eval (by simp -dsimp -implicitDefEqProofs [c1, c2, d1, d2]; rfl) ?_
  all_goals (
    refine wp_loopR (fun ts mm => ∃ (O : List Ct) (bb : Blk), O.length ≤ 60 ∧ (∀ y ∈ O, okCt y) ∧ InvB v m O ∧ flA v m O bb ∧
        ts = [(1, .fsl 3 (ms.map avCt)), (3, .fptr (.agg [.v (.int .i64 v), .v (.int .u16 (m : Nat))]) 0), (7, .ptr 0 0 0), (8, .ptr 1 0 0)] ∧ mm = [.var [.v (.int .i64 v), .v (.int .u16 (m : Nat)), .v (.slice none 0 0)], bb])
      (fun j ts mm => ∃ (i : Nat) (O : List Ct) (bb : Blk), i + j = os.length ∧ O.length ≤ i ∧ (∀ y ∈ O, okCt y) ∧ InvB v m O ∧ flA v m O bb ∧
        ts = [(1, .fsl 3 (ms.map avCt)), (3, .fptr (.agg [.v (.int .i64 v), .v (.int .u16 (m : Nat))]) 0), (7, .ptr 0 0 0), (8, .ptr 1 0 0), (31, .fsl 3 (os.map avCt)), (32, .v (.int .i64 os.length)), (33, .v (.int .i64 i))] ∧
        mm = [.var [.v (.int .i64 v), .v (.int .u16 (m : Nat)), .v (.slice none 0 0)], bb]) os.length ?_ ?_ ?_
    · exact ⟨[], [0, 1], rfl, rfl, 0, [], _, by omega, by simp, by simp, .inr rfl, .inl ⟨rfl, rfl⟩, by simp, by simp⟩
    · rintro W hW j ts mm ⟨i, O, bb, hi, hll, hok, hinv, hbb, rfl, rfl⟩
      by_cases hlt : i < os.length
      · have hd : decide ((i : Int) < (os.length : Int)) = true := by rw [decide_eq_true_eq]; omega
        have hd2 : decide (i < os.length) = true := by simp [hlt]
        obtain ⟨x, hx⟩ : ∃ x, os[i]? = some x := ⟨_, List.getElem?_eq_getElem (by omega)⟩
        have hc := hos x (List.mem_of_getElem? hx)
        have h64 : IntKind.wrap .i64 ((i : Int) + 1) = ((i + 1 : Nat) : Int) := by rw [IntWalk.i64_in _ (by omega)]; rfl
        have hinv' := inv_put hinv x
        obtain ⟨w, a, d⟩ := x
        have hP := putCAt v m O w a d
        rw [if_pos ⟨hm, by omega, hok, hc⟩] at hP
        have hpm : ∀ y ∈ (putC v m O ⟨w, a, d⟩).1, okCt y := fun y hy => by
          rcases putC_mem hy with rfl | hy
          · exact hc
          · exact hok y hy
        have hpl := putC_len v m O ⟨w, a, d⟩
        generalize putC v m O ⟨w, a, d⟩ = p at *
        obtain ⟨l', e⟩ := p
        simp only at hP hpm hpl hinv'
        rcases hbb with ⟨hl0, rfl⟩ | rfl
        all_goals (
          try (rw [hl0] at hP; simp only [List.map_nil] at hP)
          repeat' with_reducible first
            | refine wp_regionS (seg_eval (by simp -dsimp -implicitDefEqProofs [avCt, cCt, spCt1, hd, hd2, h64, hx, hP]; rfl) ?_)
            | refine wp_region (seg_eval (by simp -dsimp -implicitDefEqProofs [avCt, cCt, spCt1, hd, hd2, h64, hx, hP]; rfl) ?_)
            | refine wp_drawsS (seg_eval (by simp -dsimp -implicitDefEqProofs [avCt, cCt, spCt1, hd, hd2, h64, hx, hP]; rfl) ?_)
            | refine wp_draws (seg_eval (by simp -dsimp -implicitDefEqProofs [avCt, cCt, spCt1, hd, hd2, h64, hx, hP]; rfl) ?_)
            | refine seg_fin ?_
            | refine seg_pan ?_
            | refine seg_both ?_ ?_
            | refine seg_case (fun x h => ?_) (fun h => ?_)
            | refine seg_gate (fun h => ?_) (fun h => ?_)
            | refine seg_need ?_ ?_
            | refine wp_assoc ?_ | refine wp_skipS ?_ | refine wp_retS ?_ | refine wp_exitS ?_ | refine wp_dropS (wp_eqT (by simp -dsimp -implicitDefEqProofs; rfl) ?_) | refine wp_sealS (by simp -dsimp -implicitDefEqProofs; rfl) ?_ | refine wp_seal (by simp -dsimp -implicitDefEqProofs; rfl) ?_ | refine wp_pack_out ?_ | refine wp_blockS ?_ | refine wp_skip' ?_ | refine wp_ret' ?_ | refine wp_exit' ?_ | refine wp_drop (wp_eqT (by simp -dsimp -implicitDefEqProofs; rfl) ?_) | refine wp_block' ?_
            | refine wp_condVS (by simp -dsimp -implicitDefEqProofs; rfl) ?_
            | refine wp_condV (by simp -dsimp -implicitDefEqProofs; rfl) ?_
            | refine cond_t ?_ | refine cond_f ?_ | refine cond_v (fun h => ?_) (fun h => ?_)
            | refine post_then ?_ | refine post_thenE ?_ | refine post_thenP ?_ | refine post_blkP ?_ | refine post_thenR ?_ | refine post_blkN ?_ | refine post_blkE ?_ | refine post_blkF rfl ?_ | refine post_blkR ?_
            | refine seg_eval (by simp -dsimp -implicitDefEqProofs [avCt, cCt, spCt1, hd, hd2, h64, hx, hP]; rfl) ?_
          all_goals first
            | omega
            | exact ⟨j - 1, by omega, [], [0, 1], rfl, rfl, i + 1, l', _, by omega, by omega, hpm, hinv', .inr rfl, by simp [avCt, cCt], by simp⟩
            | trace_state)
      · have hd : decide ((i : Int) < (os.length : Int)) = false := by rw [decide_eq_false_iff_not]; omega
        have hd2 : decide (i < os.length) = false := by simp [hlt]
        repeat' with_reducible first
          | refine wp_regionS (seg_eval (by simp -dsimp -implicitDefEqProofs [hd, hd2]; rfl) ?_)
          | refine wp_region (seg_eval (by simp -dsimp -implicitDefEqProofs [hd, hd2]; rfl) ?_)
          | refine wp_drawsS (seg_eval (by simp -dsimp -implicitDefEqProofs [hd, hd2]; rfl) ?_)
          | refine wp_draws (seg_eval (by simp -dsimp -implicitDefEqProofs [hd, hd2]; rfl) ?_)
          | refine seg_fin ?_
          | refine seg_pan ?_
          | refine seg_both ?_ ?_
          | refine seg_case (fun x h => ?_) (fun h => ?_)
          | refine seg_gate (fun h => ?_) (fun h => ?_)
          | refine seg_need ?_ ?_
          | refine wp_assoc ?_ | refine wp_skipS ?_ | refine wp_retS ?_ | refine wp_exitS ?_ | refine wp_dropS (wp_eqT (by simp -dsimp -implicitDefEqProofs; rfl) ?_) | refine wp_sealS (by simp -dsimp -implicitDefEqProofs; rfl) ?_ | refine wp_seal (by simp -dsimp -implicitDefEqProofs; rfl) ?_ | refine wp_pack_out ?_ | refine wp_blockS ?_ | refine wp_skip' ?_ | refine wp_ret' ?_ | refine wp_exit' ?_ | refine wp_drop (wp_eqT (by simp -dsimp -implicitDefEqProofs; rfl) ?_) | refine wp_block' ?_
          | refine wp_condVS (by simp -dsimp -implicitDefEqProofs; rfl) ?_
          | refine wp_condV (by simp -dsimp -implicitDefEqProofs; rfl) ?_
          | refine cond_t ?_ | refine cond_f ?_ | refine cond_v (fun h => ?_) (fun h => ?_)
          | refine post_then ?_ | refine post_thenE ?_ | refine post_thenP ?_ | refine post_blkP ?_ | refine post_thenR ?_ | refine post_blkN ?_ | refine post_blkE ?_ | refine post_blkF rfl ?_ | refine post_blkR ?_
          | refine seg_eval (by simp -dsimp -implicitDefEqProofs [hd, hd2]; rfl) ?_
        exact hW _ _ ⟨O, bb, by omega, hok, hinv, hbb, by simp, by simp⟩
    · rintro ts mm ⟨O, bb, hO60, hO, hinv, hbb, rfl, rfl⟩
      have hfr := faulty_range ((sizeS m : Nat) : Int)
      by_cases hf : faultyS (sizeS m) < (O.length : Int)
      · have f1 : decide (faultyS (sizeS m) < (O.length : Int)) = true := by simp [hf]
        rcases hbb with ⟨hl0, rfl⟩ | rfl
        · rw [hl0] at hf; simp at hf; omega
        · skip
          repeat' with_reducible first
            | refine wp_regionS (seg_eval (by simp -dsimp -implicitDefEqProofs [spSize, spFaulty, hml, f1]; rfl) ?_)
            | refine wp_region (seg_eval (by simp -dsimp -implicitDefEqProofs [spSize, spFaulty, hml, f1]; rfl) ?_)
            | refine seg_fin ?_
            | refine seg_pan ?_
            | refine seg_both ?_ ?_
            | refine seg_case (fun x h => ?_) (fun h => ?_)
            | refine seg_gate (fun h => ?_) (fun h => ?_)
            | refine seg_need ?_ ?_
            | refine wp_assoc ?_ | refine wp_skipS ?_ | refine wp_retS ?_ | refine wp_exitS ?_ | refine wp_dropS (wp_eqT (by simp -dsimp -implicitDefEqProofs; rfl) ?_) | refine wp_sealS (by simp -dsimp -implicitDefEqProofs; rfl) ?_ | refine wp_seal (by simp -dsimp -implicitDefEqProofs; rfl) ?_ | refine wp_pack_out ?_ | refine wp_blockS ?_ | refine wp_skip' ?_ | refine wp_ret' ?_ | refine wp_exit' ?_ | refine wp_drop (wp_eqT (by simp -dsimp -implicitDefEqProofs; rfl) ?_) | refine wp_block' ?_
            | refine wp_condVS (by simp -dsimp -implicitDefEqProofs; rfl) ?_
            | refine wp_condV (by simp -dsimp -implicitDefEqProofs; rfl) ?_
            | refine cond_t ?_ | refine cond_f ?_ | refine cond_v (fun h => ?_) (fun h => ?_)
            | refine post_then ?_ | refine post_thenE ?_ | refine post_thenP ?_ | refine post_blkP ?_ | refine post_thenR ?_ | refine post_blkN ?_ | refine post_blkE ?_ | refine post_blkF rfl ?_ | refine post_blkR ?_
            | refine seg_eval (by simp -dsimp -implicitDefEqProofs [spSize, spFaulty, hml, f1]; rfl) ?_
          refine wp_drawsRS (fun ts mm => ts = [(1, .fsl 3 (ms.map avCt)), (7, .ptr 0 0 0), (8, .ptr 1 0 0), (52, .v (.bool true))] ∧ mm = [.var [.v (.int .i64 v), .v (.int .u16 (m : Nat)), .v (.slice none 0 0)], .var [.v (.int .i64 v), .v (.int .u16 (m : Nat)), .fsl 3 (O.map avCt)]]) ?_ ?_
          · intro W hW
            repeat' with_reducible first
              | refine wp_regionS (seg_eval (by simp -dsimp -implicitDefEqProofs [spSize, spFaulty, hml, f1]; rfl) ?_)
              | refine wp_region (seg_eval (by simp -dsimp -implicitDefEqProofs [spSize, spFaulty, hml, f1]; rfl) ?_)
              | refine wp_drawsS (seg_eval (by simp -dsimp -implicitDefEqProofs [spSize, spFaulty, hml, f1]; rfl) ?_)
              | refine wp_draws (seg_eval (by simp -dsimp -implicitDefEqProofs [spSize, spFaulty, hml, f1]; rfl) ?_)
              | refine seg_fin ?_
              | refine seg_pan ?_
              | refine seg_both ?_ ?_
              | refine seg_case (fun x h => ?_) (fun h => ?_)
              | refine seg_gate (fun h => ?_) (fun h => ?_)
              | refine seg_need ?_ ?_
              | refine wp_assoc ?_ | refine wp_skipS ?_ | refine wp_retS ?_ | refine wp_exitS ?_ | refine wp_dropS (wp_eqT (by simp -dsimp -implicitDefEqProofs; rfl) ?_) | refine wp_sealS (by simp -dsimp -implicitDefEqProofs; rfl) ?_ | refine wp_seal (by simp -dsimp -implicitDefEqProofs; rfl) ?_ | refine wp_pack_out ?_ | refine wp_blockS ?_ | refine wp_skip' ?_ | refine wp_ret' ?_ | refine wp_exit' ?_ | refine wp_drop (wp_eqT (by simp -dsimp -implicitDefEqProofs; rfl) ?_) | refine wp_block' ?_
              | refine wp_condVS (by simp -dsimp -implicitDefEqProofs; rfl) ?_
              | refine wp_condV (by simp -dsimp -implicitDefEqProofs; rfl) ?_
              | refine cond_t ?_ | refine cond_f ?_ | refine cond_v (fun h => ?_) (fun h => ?_)
              | refine post_then ?_ | refine post_thenE ?_ | refine post_thenP ?_ | refine post_blkP ?_ | refine post_thenR ?_ | refine post_blkN ?_ | refine post_blkE ?_ | refine post_blkF rfl ?_ | refine post_blkR ?_
              | refine seg_eval (by simp -dsimp -implicitDefEqProofs [spSize, spFaulty, hml, f1]; rfl) ?_
            all_goals first
              | omega
              | exact hW _ _ ⟨[], [0, 1], rfl, rfl, by simp, by simp⟩
              | trace_state
          rintro ts mm ⟨rfl, rfl⟩
          repeat' with_reducible first
            | refine wp_regionS (seg_eval (by simp -dsimp -implicitDefEqProofs [f1]; rfl) ?_)
            | refine wp_region (seg_eval (by simp -dsimp -implicitDefEqProofs [f1]; rfl) ?_)
            | refine wp_drawsS (seg_eval (by simp -dsimp -implicitDefEqProofs [f1]; rfl) ?_)
            | refine wp_draws (seg_eval (by simp -dsimp -implicitDefEqProofs [f1]; rfl) ?_)
            | refine seg_fin ?_
            | refine seg_pan ?_
            | refine seg_both ?_ ?_
            | refine seg_case (fun x h => ?_) (fun h => ?_)
            | refine seg_gate (fun h => ?_) (fun h => ?_)
            | refine seg_need ?_ ?_
            | refine wp_assoc ?_ | refine wp_skipS ?_ | refine wp_retS ?_ | refine wp_exitS ?_ | refine wp_dropS (wp_eqT (by simp -dsimp -implicitDefEqProofs; rfl) ?_) | refine wp_sealS (by simp -dsimp -implicitDefEqProofs; rfl) ?_ | refine wp_seal (by simp -dsimp -implicitDefEqProofs; rfl) ?_ | refine wp_pack_out ?_ | refine wp_blockS ?_ | refine wp_skip' ?_ | refine wp_ret' ?_ | refine wp_exit' ?_ | refine wp_drop (wp_eqT (by simp -dsimp -implicitDefEqProofs; rfl) ?_) | refine wp_block' ?_
            | refine wp_condVS (by simp -dsimp -implicitDefEqProofs; rfl) ?_
            | refine wp_condV (by simp -dsimp -implicitDefEqProofs; rfl) ?_
            | refine cond_t ?_ | refine cond_f ?_ | refine cond_v (fun h => ?_) (fun h => ?_)
            | refine post_then ?_ | refine post_thenE ?_ | refine post_thenP ?_ | refine post_blkP ?_ | refine post_thenR ?_ | refine post_blkN ?_ | refine post_blkE ?_ | refine post_blkF rfl ?_ | refine post_blkR ?_
            | refine seg_eval (by simp -dsimp -implicitDefEqProofs [f1]; rfl) ?_
          all_goals first
            | exact post_fin rfl rfl ⟨[], [], rfl, rfl, rfl, rfl⟩
            | trace_state
      · have f1 : decide (faultyS (sizeS m) < (O.length : Int)) = false := by rw [decide_eq_false_iff_not]; exact hf
        have f0 : O = [] → decide (faultyS (sizeS m) < 0) = false := fun _ => by rw [decide_eq_false_iff_not]; omega
        obtain ⟨bb', hb'⟩ : ∃ x, x = bb := ⟨_, rfl⟩
        have hbb' := hbb
        rw [← hb'] at hbb'
        have f2 : decide (faultyS (sizeS m) < 0) = false := by rw [decide_eq_false_iff_not]; omega
        rcases hbb with ⟨hl0, rfl⟩ | rfl
        · skip
          repeat' with_reducible first
            | refine wp_regionS (seg_eval (by simp -dsimp -implicitDefEqProofs [spSize, spFaulty, hml, f1, f2]; rfl) ?_)
            | refine wp_region (seg_eval (by simp -dsimp -implicitDefEqProofs [spSize, spFaulty, hml, f1, f2]; rfl) ?_)
            | refine seg_fin ?_
            | refine seg_pan ?_
            | refine seg_both ?_ ?_
            | refine seg_case (fun x h => ?_) (fun h => ?_)
            | refine seg_gate (fun h => ?_) (fun h => ?_)
            | refine seg_need ?_ ?_
            | refine wp_assoc ?_ | refine wp_skipS ?_ | refine wp_retS ?_ | refine wp_exitS ?_ | refine wp_dropS (wp_eqT (by simp -dsimp -implicitDefEqProofs; rfl) ?_) | refine wp_sealS (by simp -dsimp -implicitDefEqProofs; rfl) ?_ | refine wp_seal (by simp -dsimp -implicitDefEqProofs; rfl) ?_ | refine wp_pack_out ?_ | refine wp_blockS ?_ | refine wp_skip' ?_ | refine wp_ret' ?_ | refine wp_exit' ?_ | refine wp_drop (wp_eqT (by simp -dsimp -implicitDefEqProofs; rfl) ?_) | refine wp_block' ?_
            | refine wp_condVS (by simp -dsimp -implicitDefEqProofs; rfl) ?_
            | refine wp_condV (by simp -dsimp -implicitDefEqProofs; rfl) ?_
            | refine cond_t ?_ | refine cond_f ?_ | refine cond_v (fun h => ?_) (fun h => ?_)
            | refine post_then ?_ | refine post_thenE ?_ | refine post_thenP ?_ | refine post_blkP ?_ | refine post_thenR ?_ | refine post_blkN ?_ | refine post_blkE ?_ | refine post_blkF rfl ?_ | refine post_blkR ?_
            | refine seg_eval (by simp -dsimp -implicitDefEqProofs [spSize, spFaulty, hml, f1, f2]; rfl) ?_
          refine wp_drawsRS (fun ts mm => ts = [(1, .fsl 3 (ms.map avCt)), (7, .ptr 0 0 0), (8, .ptr 1 0 0), (52, .v (.bool false))] ∧ mm = [.var [.v (.int .i64 v), .v (.int .u16 (m : Nat)), .v (.slice none 0 0)], .var [.v (.int .i64 v), .v (.int .u16 (m : Nat)), .v (.slice none 0 0)]]) ?_ ?_
          · intro W hW
            repeat' with_reducible first
              | refine wp_regionS (seg_eval (by simp -dsimp -implicitDefEqProofs [spSize, spFaulty, hml, f1, f2]; rfl) ?_)
              | refine wp_region (seg_eval (by simp -dsimp -implicitDefEqProofs [spSize, spFaulty, hml, f1, f2]; rfl) ?_)
              | refine wp_drawsS (seg_eval (by simp -dsimp -implicitDefEqProofs [spSize, spFaulty, hml, f1, f2]; rfl) ?_)
              | refine wp_draws (seg_eval (by simp -dsimp -implicitDefEqProofs [spSize, spFaulty, hml, f1, f2]; rfl) ?_)
              | refine seg_fin ?_
              | refine seg_pan ?_
              | refine seg_both ?_ ?_
              | refine seg_case (fun x h => ?_) (fun h => ?_)
              | refine seg_gate (fun h => ?_) (fun h => ?_)
              | refine seg_need ?_ ?_
              | refine wp_assoc ?_ | refine wp_skipS ?_ | refine wp_retS ?_ | refine wp_exitS ?_ | refine wp_dropS (wp_eqT (by simp -dsimp -implicitDefEqProofs; rfl) ?_) | refine wp_sealS (by simp -dsimp -implicitDefEqProofs; rfl) ?_ | refine wp_seal (by simp -dsimp -implicitDefEqProofs; rfl) ?_ | refine wp_pack_out ?_ | refine wp_blockS ?_ | refine wp_skip' ?_ | refine wp_ret' ?_ | refine wp_exit' ?_ | refine wp_drop (wp_eqT (by simp -dsimp -implicitDefEqProofs; rfl) ?_) | refine wp_block' ?_
              | refine wp_condVS (by simp -dsimp -implicitDefEqProofs; rfl) ?_
              | refine wp_condV (by simp -dsimp -implicitDefEqProofs; rfl) ?_
              | refine cond_t ?_ | refine cond_f ?_ | refine cond_v (fun h => ?_) (fun h => ?_)
              | refine post_then ?_ | refine post_thenE ?_ | refine post_thenP ?_ | refine post_blkP ?_ | refine post_thenR ?_ | refine post_blkN ?_ | refine post_blkE ?_ | refine post_blkF rfl ?_ | refine post_blkR ?_
              | refine seg_eval (by simp -dsimp -implicitDefEqProofs [spSize, spFaulty, hml, f1, f2]; rfl) ?_
            all_goals first
              | omega
              | exact hW _ _ ⟨[], [0, 1], rfl, rfl, by simp, by simp⟩
              | trace_state
          rintro ts mm ⟨rfl, rfl⟩
          repeat' with_reducible first
            | refine wp_regionS (seg_eval (by simp -dsimp -implicitDefEqProofs [f1, f2]; rfl) ?_)
            | refine wp_region (seg_eval (by simp -dsimp -implicitDefEqProofs [f1, f2]; rfl) ?_)
            | refine wp_drawsS (seg_eval (by simp -dsimp -implicitDefEqProofs [f1, f2]; rfl) ?_)
            | refine wp_draws (seg_eval (by simp -dsimp -implicitDefEqProofs [f1, f2]; rfl) ?_)
            | refine seg_fin ?_
            | refine seg_pan ?_
            | refine seg_both ?_ ?_
            | refine seg_case (fun x h => ?_) (fun h => ?_)
            | refine seg_gate (fun h => ?_) (fun h => ?_)
            | refine seg_need ?_ ?_
            | refine wp_assoc ?_ | refine wp_skipS ?_ | refine wp_retS ?_ | refine wp_exitS ?_ | refine wp_dropS (wp_eqT (by simp -dsimp -implicitDefEqProofs; rfl) ?_) | refine wp_sealS (by simp -dsimp -implicitDefEqProofs; rfl) ?_ | refine wp_seal (by simp -dsimp -implicitDefEqProofs; rfl) ?_ | refine wp_pack_out ?_ | refine wp_blockS ?_ | refine wp_skip' ?_ | refine wp_ret' ?_ | refine wp_exit' ?_ | refine wp_drop (wp_eqT (by simp -dsimp -implicitDefEqProofs; rfl) ?_) | refine wp_block' ?_
            | refine wp_condVS (by simp -dsimp -implicitDefEqProofs; rfl) ?_
            | refine wp_condV (by simp -dsimp -implicitDefEqProofs; rfl) ?_
            | refine cond_t ?_ | refine cond_f ?_ | refine cond_v (fun h => ?_) (fun h => ?_)
            | refine post_then ?_ | refine post_thenE ?_ | refine post_thenP ?_ | refine post_blkP ?_ | refine post_thenR ?_ | refine post_blkN ?_ | refine post_blkE ?_ | refine post_blkF rfl ?_ | refine post_blkR ?_
            | refine seg_eval (by simp -dsimp -implicitDefEqProofs [f1, f2]; rfl) ?_
          refine wp_loopR (fun ts mm => ∃ (A B : List Ct) (ba bb : Blk), A.length ≤ 60 ∧ B.length ≤ 120 ∧ (∀ y ∈ A, okCt y) ∧ (∀ y ∈ B, okCt y) ∧ InvA v m O A B ∧ flA v m A ba ∧ flA v m B bb ∧
              ts = [(7, .ptr 0 0 0), (8, .ptr 1 0 0)] ∧ mm = [ba, bb])
            (fun j ts mm => ∃ (i : Nat) (A B : List Ct) (ba bb : Blk), i + j = ms.length ∧ A.length ≤ i ∧ B.length ≤ 60 + i ∧ (∀ y ∈ A, okCt y) ∧ (∀ y ∈ B, okCt y) ∧ InvA v m O A B ∧ flA v m A ba ∧ flA v m B bb ∧
              ts = [(7, .ptr 0 0 0), (8, .ptr 1 0 0), (53, .fsl 3 (ms.map avCt)), (54, .v (.int .i64 ms.length)), (55, .v (.int .i64 i))] ∧ mm = [ba, bb]) ms.length ?_ ?_ ?_
          · subst hb'
            exact ⟨[], [0, 1], rfl, rfl, 0, [], O, _, _, by omega, by simp, by omega, by simp, hO, invA_start hinv, .inl ⟨rfl, rfl⟩, hbb', by simp, by simp⟩
          · clear hbb' hb' bb'
            rintro W hW j ts mm ⟨i, A, B, ba, bb, hi, hla, hlb, hA, hB, hab, hba, hbb, rfl, rfl⟩
            by_cases hlt : i < ms.length
            · have hd : decide ((i : Int) < (ms.length : Int)) = true := by rw [decide_eq_true_eq]; omega
              have hd2 : decide (i < ms.length) = true := by simp [hlt]
              obtain ⟨x, hx⟩ : ∃ x, ms[i]? = some x := ⟨_, List.getElem?_eq_getElem (by omega)⟩
              have hc := hms x (List.mem_of_getElem? hx)
              have h64 : IntKind.wrap .i64 ((i : Int) + 1) = ((i + 1 : Nat) : Int) := by rw [IntWalk.i64_in _ (by omega)]; rfl
              have hab' := invA_put hab x
              obtain ⟨w, a, d⟩ := x
              have hPA := putCAt v m A w a d
              rw [if_pos ⟨hm, by omega, hA, hc⟩] at hPA
              have hPB := putCAt v m B w a d
              rw [if_pos ⟨hm, by omega, hB, hc⟩] at hPB
              have hAm : ∀ y ∈ (putC v m A ⟨w, a, d⟩).1, okCt y := fun y hy => by
                rcases putC_mem hy with rfl | hy
                · exact hc
                · exact hA y hy
              have hBm : ∀ y ∈ (putC v m B ⟨w, a, d⟩).1, okCt y := fun y hy => by
                rcases putC_mem hy with rfl | hy
                · exact hc
                · exact hB y hy
              have hAl := putC_len v m A ⟨w, a, d⟩
              have hBl := putC_len v m B ⟨w, a, d⟩
              generalize putC v m A ⟨w, a, d⟩ = pa at *
              generalize putC v m B ⟨w, a, d⟩ = pb at *
              obtain ⟨A', eA⟩ := pa
              obtain ⟨B', eB⟩ := pb
              simp only at hPA hPB hAm hBm hAl hBl hab'
              rcases hba with ⟨ha0, rfl⟩ | rfl <;> rcases hbb with ⟨hb0, rfl⟩ | rfl
              · skip
                rw [ha0] at hPA
                simp only [List.map_nil] at hPA
                rw [hb0] at hPB
                simp only [List.map_nil] at hPB
                repeat' with_reducible first
                  | refine wp_regionS (seg_eval (by simp -dsimp -implicitDefEqProofs [avCt, cCt, spCt1, hd, hd2, h64, hx, hPA]; rfl) ?_)
                  | refine wp_region (seg_eval (by simp -dsimp -implicitDefEqProofs [avCt, cCt, spCt1, hd, hd2, h64, hx, hPA]; rfl) ?_)
                  | refine seg_fin ?_
                  | refine seg_pan ?_
                  | refine seg_both ?_ ?_
                  | refine seg_case (fun x h => ?_) (fun h => ?_)
                  | refine seg_gate (fun h => ?_) (fun h => ?_)
                  | refine seg_need ?_ ?_
                  | refine wp_assoc ?_ | refine wp_skipS ?_ | refine wp_retS ?_ | refine wp_exitS ?_ | refine wp_dropS (wp_eqT (by simp -dsimp -implicitDefEqProofs; rfl) ?_) | refine wp_sealS (by simp -dsimp -implicitDefEqProofs; rfl) ?_ | refine wp_seal (by simp -dsimp -implicitDefEqProofs; rfl) ?_ | refine wp_pack_out ?_ | refine wp_blockS ?_ | refine wp_skip' ?_ | refine wp_ret' ?_ | refine wp_exit' ?_ | refine wp_drop (wp_eqT (by simp -dsimp -implicitDefEqProofs; rfl) ?_) | refine wp_block' ?_
                  | refine wp_condVS (by simp -dsimp -implicitDefEqProofs; rfl) ?_
                  | refine wp_condV (by simp -dsimp -implicitDefEqProofs; rfl) ?_
                  | refine cond_t ?_ | refine cond_f ?_ | refine cond_v (fun h => ?_) (fun h => ?_)
                  | refine post_then ?_ | refine post_thenE ?_ | refine post_thenP ?_ | refine post_blkP ?_ | refine post_thenR ?_ | refine post_blkN ?_ | refine post_blkE ?_ | refine post_blkF rfl ?_ | refine post_blkR ?_
                  | refine seg_eval (by simp -dsimp -implicitDefEqProofs [avCt, cCt, spCt1, hd, hd2, h64, hx, hPA]; rfl) ?_
                refine wp_drawsR (fun ts mm => ts = [(7, .ptr 0 0 0), (8, .ptr 1 0 0), (12, .fptr (.agg [.v (.int .u8 w), .v (.bool a), .v (.int .u8 d)]) 0), (53, .fsl 3 (ms.map avCt)), (54, .v (.int .i64 ms.length)), (55, .v (.int .i64 i))] ∧ mm = [.var [.v (.int .i64 v), .v (.int .u16 (m : Nat)), .fsl 3 (A'.map avCt)], .var [.v (.int .i64 v), .v (.int .u16 (m : Nat)), .v (.slice none 0 0)]]) ?_ ?_
                · intro W hW
                  repeat' with_reducible first
                    | refine wp_regionS (seg_eval (by simp -dsimp -implicitDefEqProofs [avCt, cCt, spCt1, hd, hd2, h64, hx, hPA]; rfl) ?_)
                    | refine wp_region (seg_eval (by simp -dsimp -implicitDefEqProofs [avCt, cCt, spCt1, hd, hd2, h64, hx, hPA]; rfl) ?_)
                    | refine wp_drawsS (seg_eval (by simp -dsimp -implicitDefEqProofs [avCt, cCt, spCt1, hd, hd2, h64, hx, hPA]; rfl) ?_)
                    | refine wp_draws (seg_eval (by simp -dsimp -implicitDefEqProofs [avCt, cCt, spCt1, hd, hd2, h64, hx, hPA]; rfl) ?_)
                    | refine seg_fin ?_
                    | refine seg_pan ?_
                    | refine seg_both ?_ ?_
                    | refine seg_case (fun x h => ?_) (fun h => ?_)
                    | refine seg_gate (fun h => ?_) (fun h => ?_)
                    | refine seg_need ?_ ?_
                    | refine wp_assoc ?_ | refine wp_skipS ?_ | refine wp_retS ?_ | refine wp_exitS ?_ | refine wp_dropS (wp_eqT (by simp -dsimp -implicitDefEqProofs; rfl) ?_) | refine wp_sealS (by simp -dsimp -implicitDefEqProofs; rfl) ?_ | refine wp_seal (by simp -dsimp -implicitDefEqProofs; rfl) ?_ | refine wp_pack_out ?_ | refine wp_blockS ?_ | refine wp_skip' ?_ | refine wp_ret' ?_ | refine wp_exit' ?_ | refine wp_drop (wp_eqT (by simp -dsimp -implicitDefEqProofs; rfl) ?_) | refine wp_block' ?_
                    | refine wp_condVS (by simp -dsimp -implicitDefEqProofs; rfl) ?_
                    | refine wp_condV (by simp -dsimp -implicitDefEqProofs; rfl) ?_
                    | refine cond_t ?_ | refine cond_f ?_ | refine cond_v (fun h => ?_) (fun h => ?_)
                    | refine post_then ?_ | refine post_thenE ?_ | refine post_thenP ?_ | refine post_blkP ?_ | refine post_thenR ?_ | refine post_blkN ?_ | refine post_blkE ?_ | refine post_blkF rfl ?_ | refine post_blkR ?_
                    | refine seg_eval (by simp -dsimp -implicitDefEqProofs [avCt, cCt, spCt1, hd, hd2, h64, hx, hPA]; rfl) ?_
                  all_goals first
                    | omega
                    | exact hW _ _ ⟨[], [0, 1], rfl, rfl, by simp [avCt, cCt], by simp⟩
                    | trace_state
                rintro ts mm ⟨rfl, rfl⟩
                repeat' with_reducible first
                  | refine wp_regionS (seg_eval (by simp -dsimp -implicitDefEqProofs [avCt, cCt, spCt1, hd, hd2, h64, hx, hPB]; rfl) ?_)
                  | refine wp_region (seg_eval (by simp -dsimp -implicitDefEqProofs [avCt, cCt, spCt1, hd, hd2, h64, hx, hPB]; rfl) ?_)
                  | refine wp_drawsS (seg_eval (by simp -dsimp -implicitDefEqProofs [avCt, cCt, spCt1, hd, hd2, h64, hx, hPB]; rfl) ?_)
                  | refine wp_draws (seg_eval (by simp -dsimp -implicitDefEqProofs [avCt, cCt, spCt1, hd, hd2, h64, hx, hPB]; rfl) ?_)
                  | refine seg_fin ?_
                  | refine seg_pan ?_
                  | refine seg_both ?_ ?_
                  | refine seg_case (fun x h => ?_) (fun h => ?_)
                  | refine seg_gate (fun h => ?_) (fun h => ?_)
                  | refine seg_need ?_ ?_
                  | refine wp_assoc ?_ | refine wp_skipS ?_ | refine wp_retS ?_ | refine wp_exitS ?_ | refine wp_dropS (wp_eqT (by simp -dsimp -implicitDefEqProofs; rfl) ?_) | refine wp_sealS (by simp -dsimp -implicitDefEqProofs; rfl) ?_ | refine wp_seal (by simp -dsimp -implicitDefEqProofs; rfl) ?_ | refine wp_pack_out ?_ | refine wp_blockS ?_ | refine wp_skip' ?_ | refine wp_ret' ?_ | refine wp_exit' ?_ | refine wp_drop (wp_eqT (by simp -dsimp -implicitDefEqProofs; rfl) ?_) | refine wp_block' ?_
                  | refine wp_condVS (by simp -dsimp -implicitDefEqProofs; rfl) ?_
                  | refine wp_condV (by simp -dsimp -implicitDefEqProofs; rfl) ?_
                  | refine cond_t ?_ | refine cond_f ?_ | refine cond_v (fun h => ?_) (fun h => ?_)
                  | refine post_then ?_ | refine post_thenE ?_ | refine post_thenP ?_ | refine post_blkP ?_ | refine post_thenR ?_ | refine post_blkN ?_ | refine post_blkE ?_ | refine post_blkF rfl ?_ | refine post_blkR ?_
                  | refine seg_eval (by simp -dsimp -implicitDefEqProofs [avCt, cCt, spCt1, hd, hd2, h64, hx, hPB]; rfl) ?_
                all_goals first
                  | omega
                  | exact ⟨j - 1, by omega, [], [0, 1], rfl, rfl, i + 1, A', B', _, _, by omega, by omega, by omega, hAm, hBm, hab', .inr rfl, .inr rfl, by simp, by simp⟩
                  | trace_state
              · skip
                rw [ha0] at hPA
                simp only [List.map_nil] at hPA
                repeat' with_reducible first
                  | refine wp_regionS (seg_eval (by simp -dsimp -implicitDefEqProofs [avCt, cCt, spCt1, hd, hd2, h64, hx, hPA]; rfl) ?_)
                  | refine wp_region (seg_eval (by simp -dsimp -implicitDefEqProofs [avCt, cCt, spCt1, hd, hd2, h64, hx, hPA]; rfl) ?_)
                  | refine seg_fin ?_
                  | refine seg_pan ?_
                  | refine seg_both ?_ ?_
                  | refine seg_case (fun x h => ?_) (fun h => ?_)
                  | refine seg_gate (fun h => ?_) (fun h => ?_)
                  | refine seg_need ?_ ?_
                  | refine wp_assoc ?_ | refine wp_skipS ?_ | refine wp_retS ?_ | refine wp_exitS ?_ | refine wp_dropS (wp_eqT (by simp -dsimp -implicitDefEqProofs; rfl) ?_) | refine wp_sealS (by simp -dsimp -implicitDefEqProofs; rfl) ?_ | refine wp_seal (by simp -dsimp -implicitDefEqProofs; rfl) ?_ | refine wp_pack_out ?_ | refine wp_blockS ?_ | refine wp_skip' ?_ | refine wp_ret' ?_ | refine wp_exit' ?_ | refine wp_drop (wp_eqT (by simp -dsimp -implicitDefEqProofs; rfl) ?_) | refine wp_block' ?_
                  | refine wp_condVS (by simp -dsimp -implicitDefEqProofs; rfl) ?_
                  | refine wp_condV (by simp -dsimp -implicitDefEqProofs; rfl) ?_
                  | refine cond_t ?_ | refine cond_f ?_ | refine cond_v (fun h => ?_) (fun h => ?_)
                  | refine post_then ?_ | refine post_thenE ?_ | refine post_thenP ?_ | refine post_blkP ?_ | refine post_thenR ?_ | refine post_blkN ?_ | refine post_blkE ?_ | refine post_blkF rfl ?_ | refine post_blkR ?_
                  | refine seg_eval (by simp -dsimp -implicitDefEqProofs [avCt, cCt, spCt1, hd, hd2, h64, hx, hPA]; rfl) ?_
                refine wp_drawsR (fun ts mm => ts = [(7, .ptr 0 0 0), (8, .ptr 1 0 0), (12, .fptr (.agg [.v (.int .u8 w), .v (.bool a), .v (.int .u8 d)]) 0), (53, .fsl 3 (ms.map avCt)), (54, .v (.int .i64 ms.length)), (55, .v (.int .i64 i))] ∧ mm = [.var [.v (.int .i64 v), .v (.int .u16 (m : Nat)), .fsl 3 (A'.map avCt)], .var [.v (.int .i64 v), .v (.int .u16 (m : Nat)), .fsl 3 (B.map avCt)]]) ?_ ?_
                · intro W hW
                  repeat' with_reducible first
                    | refine wp_regionS (seg_eval (by simp -dsimp -implicitDefEqProofs [avCt, cCt, spCt1, hd, hd2, h64, hx, hPA]; rfl) ?_)
                    | refine wp_region (seg_eval (by simp -dsimp -implicitDefEqProofs [avCt, cCt, spCt1, hd, hd2, h64, hx, hPA]; rfl) ?_)
                    | refine wp_drawsS (seg_eval (by simp -dsimp -implicitDefEqProofs [avCt, cCt, spCt1, hd, hd2, h64, hx, hPA]; rfl) ?_)
                    | refine wp_draws (seg_eval (by simp -dsimp -implicitDefEqProofs [avCt, cCt, spCt1, hd, hd2, h64, hx, hPA]; rfl) ?_)
                    | refine seg_fin ?_
                    | refine seg_pan ?_
                    | refine seg_both ?_ ?_
                    | refine seg_case (fun x h => ?_) (fun h => ?_)
                    | refine seg_gate (fun h => ?_) (fun h => ?_)
                    | refine seg_need ?_ ?_
                    | refine wp_assoc ?_ | refine wp_skipS ?_ | refine wp_retS ?_ | refine wp_exitS ?_ | refine wp_dropS (wp_eqT (by simp -dsimp -implicitDefEqProofs; rfl) ?_) | refine wp_sealS (by simp -dsimp -implicitDefEqProofs; rfl) ?_ | refine wp_seal (by simp -dsimp -implicitDefEqProofs; rfl) ?_ | refine wp_pack_out ?_ | refine wp_blockS ?_ | refine wp_skip' ?_ | refine wp_ret' ?_ | refine wp_exit' ?_ | refine wp_drop (wp_eqT (by simp -dsimp -implicitDefEqProofs; rfl) ?_) | refine wp_block' ?_
                    | refine wp_condVS (by simp -dsimp -implicitDefEqProofs; rfl) ?_
                    | refine wp_condV (by simp -dsimp -implicitDefEqProofs; rfl) ?_
                    | refine cond_t ?_ | refine cond_f ?_ | refine cond_v (fun h => ?_) (fun h => ?_)
                    | refine post_then ?_ | refine post_thenE ?_ | refine post_thenP ?_ | refine post_blkP ?_ | refine post_thenR ?_ | refine post_blkN ?_ | refine post_blkE ?_ | refine post_blkF rfl ?_ | refine post_blkR ?_
                    | refine seg_eval (by simp -dsimp -implicitDefEqProofs [avCt, cCt, spCt1, hd, hd2, h64, hx, hPA]; rfl) ?_
                  all_goals first
                    | omega
                    | exact hW _ _ ⟨[], [0, 1], rfl, rfl, by simp [avCt, cCt], by simp⟩
                    | trace_state
                rintro ts mm ⟨rfl, rfl⟩
                repeat' with_reducible first
                  | refine wp_regionS (seg_eval (by simp -dsimp -implicitDefEqProofs [avCt, cCt, spCt1, hd, hd2, h64, hx, hPB]; rfl) ?_)
                  | refine wp_region (seg_eval (by simp -dsimp -implicitDefEqProofs [avCt, cCt, spCt1, hd, hd2, h64, hx, hPB]; rfl) ?_)
                  | refine wp_drawsS (seg_eval (by simp -dsimp -implicitDefEqProofs [avCt, cCt, spCt1, hd, hd2, h64, hx, hPB]; rfl) ?_)
                  | refine wp_draws (seg_eval (by simp -dsimp -implicitDefEqProofs [avCt, cCt, spCt1, hd, hd2, h64, hx, hPB]; rfl) ?_)
                  | refine seg_fin ?_
                  | refine seg_pan ?_
                  | refine seg_both ?_ ?_
                  | refine seg_case (fun x h => ?_) (fun h => ?_)
                  | refine seg_gate (fun h => ?_) (fun h => ?_)
                  | refine seg_need ?_ ?_
                  | refine wp_assoc ?_ | refine wp_skipS ?_ | refine wp_retS ?_ | refine wp_exitS ?_ | refine wp_dropS (wp_eqT (by simp -dsimp -implicitDefEqProofs; rfl) ?_) | refine wp_sealS (by simp -dsimp -implicitDefEqProofs; rfl) ?_ | refine wp_seal (by simp -dsimp -implicitDefEqProofs; rfl) ?_ | refine wp_pack_out ?_ | refine wp_blockS ?_ | refine wp_skip' ?_ | refine wp_ret' ?_ | refine wp_exit' ?_ | refine wp_drop (wp_eqT (by simp -dsimp -implicitDefEqProofs; rfl) ?_) | refine wp_block' ?_
                  | refine wp_condVS (by simp -dsimp -implicitDefEqProofs; rfl) ?_
                  | refine wp_condV (by simp -dsimp -implicitDefEqProofs; rfl) ?_
                  | refine cond_t ?_ | refine cond_f ?_ | refine cond_v (fun h => ?_) (fun h => ?_)
                  | refine post_then ?_ | refine post_thenE ?_ | refine post_thenP ?_ | refine post_blkP ?_ | refine post_thenR ?_ | refine post_blkN ?_ | refine post_blkE ?_ | refine post_blkF rfl ?_ | refine post_blkR ?_
                  | refine seg_eval (by simp -dsimp -implicitDefEqProofs [avCt, cCt, spCt1, hd, hd2, h64, hx, hPB]; rfl) ?_
                all_goals first
                  | omega
                  | exact ⟨j - 1, by omega, [], [0, 1], rfl, rfl, i + 1, A', B', _, _, by omega, by omega, by omega, hAm, hBm, hab', .inr rfl, .inr rfl, by simp, by simp⟩
                  | trace_state
              · skip
                rw [hb0] at hPB
                simp only [List.map_nil] at hPB
                repeat' with_reducible first
                  | refine wp_regionS (seg_eval (by simp -dsimp -implicitDefEqProofs [avCt, cCt, spCt1, hd, hd2, h64, hx, hPA]; rfl) ?_)
                  | refine wp_region (seg_eval (by simp -dsimp -implicitDefEqProofs [avCt, cCt, spCt1, hd, hd2, h64, hx, hPA]; rfl) ?_)
                  | refine seg_fin ?_
                  | refine seg_pan ?_
                  | refine seg_both ?_ ?_
                  | refine seg_case (fun x h => ?_) (fun h => ?_)
                  | refine seg_gate (fun h => ?_) (fun h => ?_)
                  | refine seg_need ?_ ?_
                  | refine wp_assoc ?_ | refine wp_skipS ?_ | refine wp_retS ?_ | refine wp_exitS ?_ | refine wp_dropS (wp_eqT (by simp -dsimp -implicitDefEqProofs; rfl) ?_) | refine wp_sealS (by simp -dsimp -implicitDefEqProofs; rfl) ?_ | refine wp_seal (by simp -dsimp -implicitDefEqProofs; rfl) ?_ | refine wp_pack_out ?_ | refine wp_blockS ?_ | refine wp_skip' ?_ | refine wp_ret' ?_ | refine wp_exit' ?_ | refine wp_drop (wp_eqT (by simp -dsimp -implicitDefEqProofs; rfl) ?_) | refine wp_block' ?_
                  | refine wp_condVS (by simp -dsimp -implicitDefEqProofs; rfl) ?_
                  | refine wp_condV (by simp -dsimp -implicitDefEqProofs; rfl) ?_
                  | refine cond_t ?_ | refine cond_f ?_ | refine cond_v (fun h => ?_) (fun h => ?_)
                  | refine post_then ?_ | refine post_thenE ?_ | refine post_thenP ?_ | refine post_blkP ?_ | refine post_thenR ?_ | refine post_blkN ?_ | refine post_blkE ?_ | refine post_blkF rfl ?_ | refine post_blkR ?_
                  | refine seg_eval (by simp -dsimp -implicitDefEqProofs [avCt, cCt, spCt1, hd, hd2, h64, hx, hPA]; rfl) ?_
                refine wp_drawsR (fun ts mm => ts = [(7, .ptr 0 0 0), (8, .ptr 1 0 0), (12, .fptr (.agg [.v (.int .u8 w), .v (.bool a), .v (.int .u8 d)]) 0), (53, .fsl 3 (ms.map avCt)), (54, .v (.int .i64 ms.length)), (55, .v (.int .i64 i))] ∧ mm = [.var [.v (.int .i64 v), .v (.int .u16 (m : Nat)), .fsl 3 (A'.map avCt)], .var [.v (.int .i64 v), .v (.int .u16 (m : Nat)), .v (.slice none 0 0)]]) ?_ ?_
                · intro W hW
                  repeat' with_reducible first
                    | refine wp_regionS (seg_eval (by simp -dsimp -implicitDefEqProofs [avCt, cCt, spCt1, hd, hd2, h64, hx, hPA]; rfl) ?_)
                    | refine wp_region (seg_eval (by simp -dsimp -implicitDefEqProofs [avCt, cCt, spCt1, hd, hd2, h64, hx, hPA]; rfl) ?_)
                    | refine wp_drawsS (seg_eval (by simp -dsimp -implicitDefEqProofs [avCt, cCt, spCt1, hd, hd2, h64, hx, hPA]; rfl) ?_)
                    | refine wp_draws (seg_eval (by simp -dsimp -implicitDefEqProofs [avCt, cCt, spCt1, hd, hd2, h64, hx, hPA]; rfl) ?_)
                    | refine seg_fin ?_
                    | refine seg_pan ?_
                    | refine seg_both ?_ ?_
                    | refine seg_case (fun x h => ?_) (fun h => ?_)
                    | refine seg_gate (fun h => ?_) (fun h => ?_)
                    | refine seg_need ?_ ?_
                    | refine wp_assoc ?_ | refine wp_skipS ?_ | refine wp_retS ?_ | refine wp_exitS ?_ | refine wp_dropS (wp_eqT (by simp -dsimp -implicitDefEqProofs; rfl) ?_) | refine wp_sealS (by simp -dsimp -implicitDefEqProofs; rfl) ?_ | refine wp_seal (by simp -dsimp -implicitDefEqProofs; rfl) ?_ | refine wp_pack_out ?_ | refine wp_blockS ?_ | refine wp_skip' ?_ | refine wp_ret' ?_ | refine wp_exit' ?_ | refine wp_drop (wp_eqT (by simp -dsimp -implicitDefEqProofs; rfl) ?_) | refine wp_block' ?_
                    | refine wp_condVS (by simp -dsimp -implicitDefEqProofs; rfl) ?_
                    | refine wp_condV (by simp -dsimp -implicitDefEqProofs; rfl) ?_
                    | refine cond_t ?_ | refine cond_f ?_ | refine cond_v (fun h => ?_) (fun h => ?_)
                    | refine post_then ?_ | refine post_thenE ?_ | refine post_thenP ?_ | refine post_blkP ?_ | refine post_thenR ?_ | refine post_blkN ?_ | refine post_blkE ?_ | refine post_blkF rfl ?_ | refine post_blkR ?_
                    | refine seg_eval (by simp -dsimp -implicitDefEqProofs [avCt, cCt, spCt1, hd, hd2, h64, hx, hPA]; rfl) ?_
                  all_goals first
                    | omega
                    | exact hW _ _ ⟨[], [0, 1], rfl, rfl, by simp [avCt, cCt], by simp⟩
                    | trace_state
                rintro ts mm ⟨rfl, rfl⟩
                repeat' with_reducible first
                  | refine wp_regionS (seg_eval (by simp -dsimp -implicitDefEqProofs [avCt, cCt, spCt1, hd, hd2, h64, hx, hPB]; rfl) ?_)
                  | refine wp_region (seg_eval (by simp -dsimp -implicitDefEqProofs [avCt, cCt, spCt1, hd, hd2, h64, hx, hPB]; rfl) ?_)
                  | refine wp_drawsS (seg_eval (by simp -dsimp -implicitDefEqProofs [avCt, cCt, spCt1, hd, hd2, h64, hx, hPB]; rfl) ?_)
                  | refine wp_draws (seg_eval (by simp -dsimp -implicitDefEqProofs [avCt, cCt, spCt1, hd, hd2, h64, hx, hPB]; rfl) ?_)
                  | refine seg_fin ?_
                  | refine seg_pan ?_
                  | refine seg_both ?_ ?_
                  | refine seg_case (fun x h => ?_) (fun h => ?_)
                  | refine seg_gate (fun h => ?_) (fun h => ?_)
                  | refine seg_need ?_ ?_
                  | refine wp_assoc ?_ | refine wp_skipS ?_ | refine wp_retS ?_ | refine wp_exitS ?_ | refine wp_dropS (wp_eqT (by simp -dsimp -implicitDefEqProofs; rfl) ?_) | refine wp_sealS (by simp -dsimp -implicitDefEqProofs; rfl) ?_ | refine wp_seal (by simp -dsimp -implicitDefEqProofs; rfl) ?_ | refine wp_pack_out ?_ | refine wp_blockS ?_ | refine wp_skip' ?_ | refine wp_ret' ?_ | refine wp_exit' ?_ | refine wp_drop (wp_eqT (by simp -dsimp -implicitDefEqProofs; rfl) ?_) | refine wp_block' ?_
                  | refine wp_condVS (by simp -dsimp -implicitDefEqProofs; rfl) ?_
                  | refine wp_condV (by simp -dsimp -implicitDefEqProofs; rfl) ?_
                  | refine cond_t ?_ | refine cond_f ?_ | refine cond_v (fun h => ?_) (fun h => ?_)
                  | refine post_then ?_ | refine post_thenE ?_ | refine post_thenP ?_ | refine post_blkP ?_ | refine post_thenR ?_ | refine post_blkN ?_ | refine post_blkE ?_ | refine post_blkF rfl ?_ | refine post_blkR ?_
                  | refine seg_eval (by simp -dsimp -implicitDefEqProofs [avCt, cCt, spCt1, hd, hd2, h64, hx, hPB]; rfl) ?_
                all_goals first
                  | omega
                  | exact ⟨j - 1, by omega, [], [0, 1], rfl, rfl, i + 1, A', B', _, _, by omega, by omega, by omega, hAm, hBm, hab', .inr rfl, .inr rfl, by simp, by simp⟩
                  | trace_state
              · skip
                repeat' with_reducible first
                  | refine wp_regionS (seg_eval (by simp -dsimp -implicitDefEqProofs [avCt, cCt, spCt1, hd, hd2, h64, hx, hPA]; rfl) ?_)
                  | refine wp_region (seg_eval (by simp -dsimp -implicitDefEqProofs [avCt, cCt, spCt1, hd, hd2, h64, hx, hPA]; rfl) ?_)
                  | refine seg_fin ?_
                  | refine seg_pan ?_
                  | refine seg_both ?_ ?_
                  | refine seg_case (fun x h => ?_) (fun h => ?_)
                  | refine seg_gate (fun h => ?_) (fun h => ?_)
                  | refine seg_need ?_ ?_
                  | refine wp_assoc ?_ | refine wp_skipS ?_ | refine wp_retS ?_ | refine wp_exitS ?_ | refine wp_dropS (wp_eqT (by simp -dsimp -implicitDefEqProofs; rfl) ?_) | refine wp_sealS (by simp -dsimp -implicitDefEqProofs; rfl) ?_ | refine wp_seal (by simp -dsimp -implicitDefEqProofs; rfl) ?_ | refine wp_pack_out ?_ | refine wp_blockS ?_ | refine wp_skip' ?_ | refine wp_ret' ?_ | refine wp_exit' ?_ | refine wp_drop (wp_eqT (by simp -dsimp -implicitDefEqProofs; rfl) ?_) | refine wp_block' ?_
                  | refine wp_condVS (by simp -dsimp -implicitDefEqProofs; rfl) ?_
                  | refine wp_condV (by simp -dsimp -implicitDefEqProofs; rfl) ?_
                  | refine cond_t ?_ | refine cond_f ?_ | refine cond_v (fun h => ?_) (fun h => ?_)
                  | refine post_then ?_ | refine post_thenE ?_ | refine post_thenP ?_ | refine post_blkP ?_ | refine post_thenR ?_ | refine post_blkN ?_ | refine post_blkE ?_ | refine post_blkF rfl ?_ | refine post_blkR ?_
                  | refine seg_eval (by simp -dsimp -implicitDefEqProofs [avCt, cCt, spCt1, hd, hd2, h64, hx, hPA]; rfl) ?_
                refine wp_drawsR (fun ts mm => ts = [(7, .ptr 0 0 0), (8, .ptr 1 0 0), (12, .fptr (.agg [.v (.int .u8 w), .v (.bool a), .v (.int .u8 d)]) 0), (53, .fsl 3 (ms.map avCt)), (54, .v (.int .i64 ms.length)), (55, .v (.int .i64 i))] ∧ mm = [.var [.v (.int .i64 v), .v (.int .u16 (m : Nat)), .fsl 3 (A'.map avCt)], .var [.v (.int .i64 v), .v (.int .u16 (m : Nat)), .fsl 3 (B.map avCt)]]) ?_ ?_
                · intro W hW
                  repeat' with_reducible first
                    | refine wp_regionS (seg_eval (by simp -dsimp -implicitDefEqProofs [avCt, cCt, spCt1, hd, hd2, h64, hx, hPA]; rfl) ?_)
                    | refine wp_region (seg_eval (by simp -dsimp -implicitDefEqProofs [avCt, cCt, spCt1, hd, hd2, h64, hx, hPA]; rfl) ?_)
                    | refine wp_drawsS (seg_eval (by simp -dsimp -implicitDefEqProofs [avCt, cCt, spCt1, hd, hd2, h64, hx, hPA]; rfl) ?_)
                    | refine wp_draws (seg_eval (by simp -dsimp -implicitDefEqProofs [avCt, cCt, spCt1, hd, hd2, h64, hx, hPA]; rfl) ?_)
                    | refine seg_fin ?_
                    | refine seg_pan ?_
                    | refine seg_both ?_ ?_
                    | refine seg_case (fun x h => ?_) (fun h => ?_)
                    | refine seg_gate (fun h => ?_) (fun h => ?_)
                    | refine seg_need ?_ ?_
                    | refine wp_assoc ?_ | refine wp_skipS ?_ | refine wp_retS ?_ | refine wp_exitS ?_ | refine wp_dropS (wp_eqT (by simp -dsimp -implicitDefEqProofs; rfl) ?_) | refine wp_sealS (by simp -dsimp -implicitDefEqProofs; rfl) ?_ | refine wp_seal (by simp -dsimp -implicitDefEqProofs; rfl) ?_ | refine wp_pack_out ?_ | refine wp_blockS ?_ | refine wp_skip' ?_ | refine wp_ret' ?_ | refine wp_exit' ?_ | refine wp_drop (wp_eqT (by simp -dsimp -implicitDefEqProofs; rfl) ?_) | refine wp_block' ?_
                    | refine wp_condVS (by simp -dsimp -implicitDefEqProofs; rfl) ?_
                    | refine wp_condV (by simp -dsimp -implicitDefEqProofs; rfl) ?_
                    | refine cond_t ?_ | refine cond_f ?_ | refine cond_v (fun h => ?_) (fun h => ?_)
                    | refine post_then ?_ | refine post_thenE ?_ | refine post_thenP ?_ | refine post_blkP ?_ | refine post_thenR ?_ | refine post_blkN ?_ | refine post_blkE ?_ | refine post_blkF rfl ?_ | refine post_blkR ?_
                    | refine seg_eval (by simp -dsimp -implicitDefEqProofs [avCt, cCt, spCt1, hd, hd2, h64, hx, hPA]; rfl) ?_
                  all_goals first
                    | omega
                    | exact hW _ _ ⟨[], [0, 1], rfl, rfl, by simp [avCt, cCt], by simp⟩
                    | trace_state
                rintro ts mm ⟨rfl, rfl⟩
                repeat' with_reducible first
                  | refine wp_regionS (seg_eval (by simp -dsimp -implicitDefEqProofs [avCt, cCt, spCt1, hd, hd2, h64, hx, hPB]; rfl) ?_)
                  | refine wp_region (seg_eval (by simp -dsimp -implicitDefEqProofs [avCt, cCt, spCt1, hd, hd2, h64, hx, hPB]; rfl) ?_)
                  | refine wp_drawsS (seg_eval (by simp -dsimp -implicitDefEqProofs [avCt, cCt, spCt1, hd, hd2, h64, hx, hPB]; rfl) ?_)
                  | refine wp_draws (seg_eval (by simp -dsimp -implicitDefEqProofs [avCt, cCt, spCt1, hd, hd2, h64, hx, hPB]; rfl) ?_)
                  | refine seg_fin ?_
                  | refine seg_pan ?_
                  | refine seg_both ?_ ?_
                  | refine seg_case (fun x h => ?_) (fun h => ?_)
                  | refine seg_gate (fun h => ?_) (fun h => ?_)
                  | refine seg_need ?_ ?_
                  | refine wp_assoc ?_ | refine wp_skipS ?_ | refine wp_retS ?_ | refine wp_exitS ?_ | refine wp_dropS (wp_eqT (by simp -dsimp -implicitDefEqProofs; rfl) ?_) | refine wp_sealS (by simp -dsimp -implicitDefEqProofs; rfl) ?_ | refine wp_seal (by simp -dsimp -implicitDefEqProofs; rfl) ?_ | refine wp_pack_out ?_ | refine wp_blockS ?_ | refine wp_skip' ?_ | refine wp_ret' ?_ | refine wp_exit' ?_ | refine wp_drop (wp_eqT (by simp -dsimp -implicitDefEqProofs; rfl) ?_) | refine wp_block' ?_
                  | refine wp_condVS (by simp -dsimp -implicitDefEqProofs; rfl) ?_
                  | refine wp_condV (by simp -dsimp -implicitDefEqProofs; rfl) ?_
                  | refine cond_t ?_ | refine cond_f ?_ | refine cond_v (fun h => ?_) (fun h => ?_)
                  | refine post_then ?_ | refine post_thenE ?_ | refine post_thenP ?_ | refine post_blkP ?_ | refine post_thenR ?_ | refine post_blkN ?_ | refine post_blkE ?_ | refine post_blkF rfl ?_ | refine post_blkR ?_
                  | refine seg_eval (by simp -dsimp -implicitDefEqProofs [avCt, cCt, spCt1, hd, hd2, h64, hx, hPB]; rfl) ?_
                all_goals first
                  | omega
                  | exact ⟨j - 1, by omega, [], [0, 1], rfl, rfl, i + 1, A', B', _, _, by omega, by omega, by omega, hAm, hBm, hab', .inr rfl, .inr rfl, by simp, by simp⟩
                  | trace_state
            · have hd : decide ((i : Int) < (ms.length : Int)) = false := by rw [decide_eq_false_iff_not]; omega
              have hd2 : decide (i < ms.length) = false := by simp [hlt]
              repeat' with_reducible first
                | refine wp_regionS (seg_eval (by simp -dsimp -implicitDefEqProofs [hd, hd2]; rfl) ?_)
                | refine wp_region (seg_eval (by simp -dsimp -implicitDefEqProofs [hd, hd2]; rfl) ?_)
                | refine wp_drawsS (seg_eval (by simp -dsimp -implicitDefEqProofs [hd, hd2]; rfl) ?_)
                | refine wp_draws (seg_eval (by simp -dsimp -implicitDefEqProofs [hd, hd2]; rfl) ?_)
                | refine seg_fin ?_
                | refine seg_pan ?_
                | refine seg_both ?_ ?_
                | refine seg_case (fun x h => ?_) (fun h => ?_)
                | refine seg_gate (fun h => ?_) (fun h => ?_)
                | refine seg_need ?_ ?_
                | refine wp_assoc ?_ | refine wp_skipS ?_ | refine wp_retS ?_ | refine wp_exitS ?_ | refine wp_dropS (wp_eqT (by simp -dsimp -implicitDefEqProofs; rfl) ?_) | refine wp_sealS (by simp -dsimp -implicitDefEqProofs; rfl) ?_ | refine wp_seal (by simp -dsimp -implicitDefEqProofs; rfl) ?_ | refine wp_pack_out ?_ | refine wp_blockS ?_ | refine wp_skip' ?_ | refine wp_ret' ?_ | refine wp_exit' ?_ | refine wp_drop (wp_eqT (by simp -dsimp -implicitDefEqProofs; rfl) ?_) | refine wp_block' ?_
                | refine wp_condVS (by simp -dsimp -implicitDefEqProofs; rfl) ?_
                | refine wp_condV (by simp -dsimp -implicitDefEqProofs; rfl) ?_
                | refine cond_t ?_ | refine cond_f ?_ | refine cond_v (fun h => ?_) (fun h => ?_)
                | refine post_then ?_ | refine post_thenE ?_ | refine post_thenP ?_ | refine post_blkP ?_ | refine post_thenR ?_ | refine post_blkN ?_ | refine post_blkE ?_ | refine post_blkF rfl ?_ | refine post_blkR ?_
                | refine seg_eval (by simp -dsimp -implicitDefEqProofs [hd, hd2]; rfl) ?_
              exact hW _ _ ⟨A, B, ba, bb, by omega, by omega, hA, hB, hab, hba, hbb, by simp, by simp⟩
          · clear hbb' hb' bb'
            rintro ts mm ⟨A, B, ba, bb, hla, hlb, hA, hB, hab, hba, hbb, rfl, rfl⟩
            have hHA := chosenAt v m A
            rw [if_pos ⟨hm, by omega, hA⟩] at hHA
            have hHB := chosenAt v m B
            rw [if_pos ⟨hm, by omega, hB⟩] at hHB
            have hal := alike hm hab hA hB (by omega)
            generalize chosenC v m A = ca at *
            generalize chosenC v m B = cb at *
            obtain ⟨⟨ca1, ca2⟩, ca3⟩ := ca
            obtain ⟨⟨cb1, cb2⟩, cb3⟩ := cb
            simp only [Prod.mk.injEq] at hHA hHB hal
            rcases hba with ⟨ha0, rfl⟩ | rfl <;> rcases hbb with ⟨hb0, rfl⟩ | rfl <;> cases ca3 <;> cases cb3
            all_goals (
              try (rw [ha0] at hHA; simp only [List.map_nil] at hHA)
              try (rw [hb0] at hHB; simp only [List.map_nil] at hHB)
              try (obtain ⟨e1, e2⟩ := hal rfl rfl; subst e1 e2)
              repeat' with_reducible first
                | refine wp_regionS (seg_eval (by simp -dsimp -implicitDefEqProofs [hHA, hHB, eqCells_bi]; rfl) ?_)
                | refine wp_region (seg_eval (by simp -dsimp -implicitDefEqProofs [hHA, hHB, eqCells_bi]; rfl) ?_)
                | refine wp_drawsS (seg_eval (by simp -dsimp -implicitDefEqProofs [hHA, hHB, eqCells_bi]; rfl) ?_)
                | refine wp_draws (seg_eval (by simp -dsimp -implicitDefEqProofs [hHA, hHB, eqCells_bi]; rfl) ?_)
                | refine seg_fin ?_
                | refine seg_pan ?_
                | refine seg_both ?_ ?_
                | refine seg_case (fun x h => ?_) (fun h => ?_)
                | refine seg_gate (fun h => ?_) (fun h => ?_)
                | refine seg_need ?_ ?_
                | refine wp_assoc ?_ | refine wp_skipS ?_ | refine wp_retS ?_ | refine wp_exitS ?_ | refine wp_dropS (wp_eqT (by simp -dsimp -implicitDefEqProofs; rfl) ?_) | refine wp_sealS (by simp -dsimp -implicitDefEqProofs; rfl) ?_ | refine wp_seal (by simp -dsimp -implicitDefEqProofs; rfl) ?_ | refine wp_pack_out ?_ | refine wp_blockS ?_ | refine wp_skip' ?_ | refine wp_ret' ?_ | refine wp_exit' ?_ | refine wp_drop (wp_eqT (by simp -dsimp -implicitDefEqProofs; rfl) ?_) | refine wp_block' ?_
                | refine wp_condVS (by simp -dsimp -implicitDefEqProofs; rfl) ?_
                | refine wp_condV (by simp -dsimp -implicitDefEqProofs; rfl) ?_
                | refine cond_t ?_ | refine cond_f ?_ | refine cond_v (fun h => ?_) (fun h => ?_)
                | refine post_then ?_ | refine post_thenE ?_ | refine post_thenP ?_ | refine post_blkP ?_ | refine post_thenR ?_ | refine post_blkN ?_ | refine post_blkE ?_ | refine post_blkF rfl ?_ | refine post_blkR ?_
                | refine seg_eval (by simp -dsimp -implicitDefEqProofs [hHA, hHB, eqCells_bi]; rfl) ?_
              all_goals first
                | exact post_fin rfl rfl ⟨[], [], rfl, rfl, rfl, rfl⟩
                | trace_state)
        · skip
          repeat' with_reducible first
            | refine wp_regionS (seg_eval (by simp -dsimp -implicitDefEqProofs [spSize, spFaulty, hml, f1, f2]; rfl) ?_)
            | refine wp_region (seg_eval (by simp -dsimp -implicitDefEqProofs [spSize, spFaulty, hml, f1, f2]; rfl) ?_)
            | refine seg_fin ?_
            | refine seg_pan ?_
            | refine seg_both ?_ ?_
            | refine seg_case (fun x h => ?_) (fun h => ?_)
            | refine seg_gate (fun h => ?_) (fun h => ?_)
            | refine seg_need ?_ ?_
            | refine wp_assoc ?_ | refine wp_skipS ?_ | refine wp_retS ?_ | refine wp_exitS ?_ | refine wp_dropS (wp_eqT (by simp -dsimp -implicitDefEqProofs; rfl) ?_) | refine wp_sealS (by simp -dsimp -implicitDefEqProofs; rfl) ?_ | refine wp_seal (by simp -dsimp -implicitDefEqProofs; rfl) ?_ | refine wp_pack_out ?_ | refine wp_blockS ?_ | refine wp_skip' ?_ | refine wp_ret' ?_ | refine wp_exit' ?_ | refine wp_drop (wp_eqT (by simp -dsimp -implicitDefEqProofs; rfl) ?_) | refine wp_block' ?_
            | refine wp_condVS (by simp -dsimp -implicitDefEqProofs; rfl) ?_
            | refine wp_condV (by simp -dsimp -implicitDefEqProofs; rfl) ?_
            | refine cond_t ?_ | refine cond_f ?_ | refine cond_v (fun h => ?_) (fun h => ?_)
            | refine post_then ?_ | refine post_thenE ?_ | refine post_thenP ?_ | refine post_blkP ?_ | refine post_thenR ?_ | refine post_blkN ?_ | refine post_blkE ?_ | refine post_blkF rfl ?_ | refine post_blkR ?_
            | refine seg_eval (by simp -dsimp -implicitDefEqProofs [spSize, spFaulty, hml, f1, f2]; rfl) ?_
          refine wp_drawsRS (fun ts mm => ts = [(1, .fsl 3 (ms.map avCt)), (7, .ptr 0 0 0), (8, .ptr 1 0 0), (52, .v (.bool false))] ∧ mm = [.var [.v (.int .i64 v), .v (.int .u16 (m : Nat)), .v (.slice none 0 0)], .var [.v (.int .i64 v), .v (.int .u16 (m : Nat)), .fsl 3 (O.map avCt)]]) ?_ ?_
          · intro W hW
            repeat' with_reducible first
              | refine wp_regionS (seg_eval (by simp -dsimp -implicitDefEqProofs [spSize, spFaulty, hml, f1, f2]; rfl) ?_)
              | refine wp_region (seg_eval (by simp -dsimp -implicitDefEqProofs [spSize, spFaulty, hml, f1, f2]; rfl) ?_)
              | refine wp_drawsS (seg_eval (by simp -dsimp -implicitDefEqProofs [spSize, spFaulty, hml, f1, f2]; rfl) ?_)
              | refine wp_draws (seg_eval (by simp -dsimp -implicitDefEqProofs [spSize, spFaulty, hml, f1, f2]; rfl) ?_)
              | refine seg_fin ?_
              | refine seg_pan ?_
              | refine seg_both ?_ ?_
              | refine seg_case (fun x h => ?_) (fun h => ?_)
              | refine seg_gate (fun h => ?_) (fun h => ?_)
              | refine seg_need ?_ ?_
              | refine wp_assoc ?_ | refine wp_skipS ?_ | refine wp_retS ?_ | refine wp_exitS ?_ | refine wp_dropS (wp_eqT (by simp -dsimp -implicitDefEqProofs; rfl) ?_) | refine wp_sealS (by simp -dsimp -implicitDefEqProofs; rfl) ?_ | refine wp_seal (by simp -dsimp -implicitDefEqProofs; rfl) ?_ | refine wp_pack_out ?_ | refine wp_blockS ?_ | refine wp_skip' ?_ | refine wp_ret' ?_ | refine wp_exit' ?_ | refine wp_drop (wp_eqT (by simp -dsimp -implicitDefEqProofs; rfl) ?_) | refine wp_block' ?_
              | refine wp_condVS (by simp -dsimp -implicitDefEqProofs; rfl) ?_
              | refine wp_condV (by simp -dsimp -implicitDefEqProofs; rfl) ?_
              | refine cond_t ?_ | refine cond_f ?_ | refine cond_v (fun h => ?_) (fun h => ?_)
              | refine post_then ?_ | refine post_thenE ?_ | refine post_thenP ?_ | refine post_blkP ?_ | refine post_thenR ?_ | refine post_blkN ?_ | refine post_blkE ?_ | refine post_blkF rfl ?_ | refine post_blkR ?_
              | refine seg_eval (by simp -dsimp -implicitDefEqProofs [spSize, spFaulty, hml, f1, f2]; rfl) ?_
            all_goals first
              | omega
              | exact hW _ _ ⟨[], [0, 1], rfl, rfl, by simp, by simp⟩
              | trace_state
          rintro ts mm ⟨rfl, rfl⟩
          repeat' with_reducible first
            | refine wp_regionS (seg_eval (by simp -dsimp -implicitDefEqProofs [f1, f2]; rfl) ?_)
            | refine wp_region (seg_eval (by simp -dsimp -implicitDefEqProofs [f1, f2]; rfl) ?_)
            | refine wp_drawsS (seg_eval (by simp -dsimp -implicitDefEqProofs [f1, f2]; rfl) ?_)
            | refine wp_draws (seg_eval (by simp -dsimp -implicitDefEqProofs [f1, f2]; rfl) ?_)
            | refine seg_fin ?_
            | refine seg_pan ?_
            | refine seg_both ?_ ?_
            | refine seg_case (fun x h => ?_) (fun h => ?_)
            | refine seg_gate (fun h => ?_) (fun h => ?_)
            | refine seg_need ?_ ?_
            | refine wp_assoc ?_ | refine wp_skipS ?_ | refine wp_retS ?_ | refine wp_exitS ?_ | refine wp_dropS (wp_eqT (by simp -dsimp -implicitDefEqProofs; rfl) ?_) | refine wp_sealS (by simp -dsimp -implicitDefEqProofs; rfl) ?_ | refine wp_seal (by simp -dsimp -implicitDefEqProofs; rfl) ?_ | refine wp_pack_out ?_ | refine wp_blockS ?_ | refine wp_skip' ?_ | refine wp_ret' ?_ | refine wp_exit' ?_ | refine wp_drop (wp_eqT (by simp -dsimp -implicitDefEqProofs; rfl) ?_) | refine wp_block' ?_
            | refine wp_condVS (by simp -dsimp -implicitDefEqProofs; rfl) ?_
            | refine wp_condV (by simp -dsimp -implicitDefEqProofs; rfl) ?_
            | refine cond_t ?_ | refine cond_f ?_ | refine cond_v (fun h => ?_) (fun h => ?_)
            | refine post_then ?_ | refine post_thenE ?_ | refine post_thenP ?_ | refine post_blkP ?_ | refine post_thenR ?_ | refine post_blkN ?_ | refine post_blkE ?_ | refine post_blkF rfl ?_ | refine post_blkR ?_
            | refine seg_eval (by simp -dsimp -implicitDefEqProofs [f1, f2]; rfl) ?_
          refine wp_loopR (fun ts mm => ∃ (A B : List Ct) (ba bb : Blk), A.length ≤ 60 ∧ B.length ≤ 120 ∧ (∀ y ∈ A, okCt y) ∧ (∀ y ∈ B, okCt y) ∧ InvA v m O A B ∧ flA v m A ba ∧ flA v m B bb ∧
              ts = [(7, .ptr 0 0 0), (8, .ptr 1 0 0)] ∧ mm = [ba, bb])
            (fun j ts mm => ∃ (i : Nat) (A B : List Ct) (ba bb : Blk), i + j = ms.length ∧ A.length ≤ i ∧ B.length ≤ 60 + i ∧ (∀ y ∈ A, okCt y) ∧ (∀ y ∈ B, okCt y) ∧ InvA v m O A B ∧ flA v m A ba ∧ flA v m B bb ∧
              ts = [(7, .ptr 0 0 0), (8, .ptr 1 0 0), (53, .fsl 3 (ms.map avCt)), (54, .v (.int .i64 ms.length)), (55, .v (.int .i64 i))] ∧ mm = [ba, bb]) ms.length ?_ ?_ ?_
          · subst hb'
            exact ⟨[], [0, 1], rfl, rfl, 0, [], O, _, _, by omega, by simp, by omega, by simp, hO, invA_start hinv, .inl ⟨rfl, rfl⟩, hbb', by simp, by simp⟩
          · clear hbb' hb' bb'
            rintro W hW j ts mm ⟨i, A, B, ba, bb, hi, hla, hlb, hA, hB, hab, hba, hbb, rfl, rfl⟩
            by_cases hlt : i < ms.length
            · have hd : decide ((i : Int) < (ms.length : Int)) = true := by rw [decide_eq_true_eq]; omega
              have hd2 : decide (i < ms.length) = true := by simp [hlt]
              obtain ⟨x, hx⟩ : ∃ x, ms[i]? = some x := ⟨_, List.getElem?_eq_getElem (by omega)⟩
              have hc := hms x (List.mem_of_getElem? hx)
              have h64 : IntKind.wrap .i64 ((i : Int) + 1) = ((i + 1 : Nat) : Int) := by rw [IntWalk.i64_in _ (by omega)]; rfl
              have hab' := invA_put hab x
              obtain ⟨w, a, d⟩ := x
              have hPA := putCAt v m A w a d
              rw [if_pos ⟨hm, by omega, hA, hc⟩] at hPA
              have hPB := putCAt v m B w a d
              rw [if_pos ⟨hm, by omega, hB, hc⟩] at hPB
              have hAm : ∀ y ∈ (putC v m A ⟨w, a, d⟩).1, okCt y := fun y hy => by
                rcases putC_mem hy with rfl | hy
                · exact hc
                · exact hA y hy
              have hBm : ∀ y ∈ (putC v m B ⟨w, a, d⟩).1, okCt y := fun y hy => by
                rcases putC_mem hy with rfl | hy
                · exact hc
                · exact hB y hy
              have hAl := putC_len v m A ⟨w, a, d⟩
              have hBl := putC_len v m B ⟨w, a, d⟩
              generalize putC v m A ⟨w, a, d⟩ = pa at *
              generalize putC v m B ⟨w, a, d⟩ = pb at *
              obtain ⟨A', eA⟩ := pa
              obtain ⟨B', eB⟩ := pb
              simp only at hPA hPB hAm hBm hAl hBl hab'
              rcases hba with ⟨ha0, rfl⟩ | rfl <;> rcases hbb with ⟨hb0, rfl⟩ | rfl
              · skip
                rw [ha0] at hPA
                simp only [List.map_nil] at hPA
                rw [hb0] at hPB
                simp only [List.map_nil] at hPB
                repeat' with_reducible first
                  | refine wp_regionS (seg_eval (by simp -dsimp -implicitDefEqProofs [avCt, cCt, spCt1, hd, hd2, h64, hx, hPA]; rfl) ?_)
                  | refine wp_region (seg_eval (by simp -dsimp -implicitDefEqProofs [avCt, cCt, spCt1, hd, hd2, h64, hx, hPA]; rfl) ?_)
                  | refine seg_fin ?_
                  | refine seg_pan ?_
                  | refine seg_both ?_ ?_
                  | refine seg_case (fun x h => ?_) (fun h => ?_)
                  | refine seg_gate (fun h => ?_) (fun h => ?_)
                  | refine seg_need ?_ ?_
                  | refine wp_assoc ?_ | refine wp_skipS ?_ | refine wp_retS ?_ | refine wp_exitS ?_ | refine wp_dropS (wp_eqT (by simp -dsimp -implicitDefEqProofs; rfl) ?_) | refine wp_sealS (by simp -dsimp -implicitDefEqProofs; rfl) ?_ | refine wp_seal (by simp -dsimp -implicitDefEqProofs; rfl) ?_ | refine wp_pack_out ?_ | refine wp_blockS ?_ | refine wp_skip' ?_ | refine wp_ret' ?_ | refine wp_exit' ?_ | refine wp_drop (wp_eqT (by simp -dsimp -implicitDefEqProofs; rfl) ?_) | refine wp_block' ?_
                  | refine wp_condVS (by simp -dsimp -implicitDefEqProofs; rfl) ?_
                  | refine wp_condV (by simp -dsimp -implicitDefEqProofs; rfl) ?_
                  | refine cond_t ?_ | refine cond_f ?_ | refine cond_v (fun h => ?_) (fun h => ?_)
                  | refine post_then ?_ | refine post_thenE ?_ | refine post_thenP ?_ | refine post_blkP ?_ | refine post_thenR ?_ | refine post_blkN ?_ | refine post_blkE ?_ | refine post_blkF rfl ?_ | refine post_blkR ?_
                  | refine seg_eval (by simp -dsimp -implicitDefEqProofs [avCt, cCt, spCt1, hd, hd2, h64, hx, hPA]; rfl) ?_
                refine wp_drawsR (fun ts mm => ts = [(7, .ptr 0 0 0), (8, .ptr 1 0 0), (12, .fptr (.agg [.v (.int .u8 w), .v (.bool a), .v (.int .u8 d)]) 0), (53, .fsl 3 (ms.map avCt)), (54, .v (.int .i64 ms.length)), (55, .v (.int .i64 i))] ∧ mm = [.var [.v (.int .i64 v), .v (.int .u16 (m : Nat)), .fsl 3 (A'.map avCt)], .var [.v (.int .i64 v), .v (.int .u16 (m : Nat)), .v (.slice none 0 0)]]) ?_ ?_
                · intro W hW
                  repeat' with_reducible first
                    | refine wp_regionS (seg_eval (by simp -dsimp -implicitDefEqProofs [avCt, cCt, spCt1, hd, hd2, h64, hx, hPA]; rfl) ?_)
                    | refine wp_region (seg_eval (by simp -dsimp -implicitDefEqProofs [avCt, cCt, spCt1, hd, hd2, h64, hx, hPA]; rfl) ?_)
                    | refine wp_drawsS (seg_eval (by simp -dsimp -implicitDefEqProofs [avCt, cCt, spCt1, hd, hd2, h64, hx, hPA]; rfl) ?_)
                    | refine wp_draws (seg_eval (by simp -dsimp -implicitDefEqProofs [avCt, cCt, spCt1, hd, hd2, h64, hx, hPA]; rfl) ?_)
                    | refine seg_fin ?_
                    | refine seg_pan ?_
                    | refine seg_both ?_ ?_
                    | refine seg_case (fun x h => ?_) (fun h => ?_)
                    | refine seg_gate (fun h => ?_) (fun h => ?_)
                    | refine seg_need ?_ ?_
                    | refine wp_assoc ?_ | refine wp_skipS ?_ | refine wp_retS ?_ | refine wp_exitS ?_ | refine wp_dropS (wp_eqT (by simp -dsimp -implicitDefEqProofs; rfl) ?_) | refine wp_sealS (by simp -dsimp -implicitDefEqProofs; rfl) ?_ | refine wp_seal (by simp -dsimp -implicitDefEqProofs; rfl) ?_ | refine wp_pack_out ?_ | refine wp_blockS ?_ | refine wp_skip' ?_ | refine wp_ret' ?_ | refine wp_exit' ?_ | refine wp_drop (wp_eqT (by simp -dsimp -implicitDefEqProofs; rfl) ?_) | refine wp_block' ?_
                    | refine wp_condVS (by simp -dsimp -implicitDefEqProofs; rfl) ?_
                    | refine wp_condV (by simp -dsimp -implicitDefEqProofs; rfl) ?_
                    | refine cond_t ?_ | refine cond_f ?_ | refine cond_v (fun h => ?_) (fun h => ?_)
                    | refine post_then ?_ | refine post_thenE ?_ | refine post_thenP ?_ | refine post_blkP ?_ | refine post_thenR ?_ | refine post_blkN ?_ | refine post_blkE ?_ | refine post_blkF rfl ?_ | refine post_blkR ?_
                    | refine seg_eval (by simp -dsimp -implicitDefEqProofs [avCt, cCt, spCt1, hd, hd2, h64, hx, hPA]; rfl) ?_
                  all_goals first
                    | omega
                    | exact hW _ _ ⟨[], [0, 1], rfl, rfl, by simp [avCt, cCt], by simp⟩
                    | trace_state
                rintro ts mm ⟨rfl, rfl⟩
                repeat' with_reducible first
                  | refine wp_regionS (seg_eval (by simp -dsimp -implicitDefEqProofs [avCt, cCt, spCt1, hd, hd2, h64, hx, hPB]; rfl) ?_)
                  | refine wp_region (seg_eval (by simp -dsimp -implicitDefEqProofs [avCt, cCt, spCt1, hd, hd2, h64, hx, hPB]; rfl) ?_)
                  | refine wp_drawsS (seg_eval (by simp -dsimp -implicitDefEqProofs [avCt, cCt, spCt1, hd, hd2, h64, hx, hPB]; rfl) ?_)
                  | refine wp_draws (seg_eval (by simp -dsimp -implicitDefEqProofs [avCt, cCt, spCt1, hd, hd2, h64, hx, hPB]; rfl) ?_)
                  | refine seg_fin ?_
                  | refine seg_pan ?_
                  | refine seg_both ?_ ?_
                  | refine seg_case (fun x h => ?_) (fun h => ?_)
                  | refine seg_gate (fun h => ?_) (fun h => ?_)
                  | refine seg_need ?_ ?_
                  | refine wp_assoc ?_ | refine wp_skipS ?_ | refine wp_retS ?_ | refine wp_exitS ?_ | refine wp_dropS (wp_eqT (by simp -dsimp -implicitDefEqProofs; rfl) ?_) | refine wp_sealS (by simp -dsimp -implicitDefEqProofs; rfl) ?_ | refine wp_seal (by simp -dsimp -implicitDefEqProofs; rfl) ?_ | refine wp_pack_out ?_ | refine wp_blockS ?_ | refine wp_skip' ?_ | refine wp_ret' ?_ | refine wp_exit' ?_ | refine wp_drop (wp_eqT (by simp -dsimp -implicitDefEqProofs; rfl) ?_) | refine wp_block' ?_
                  | refine wp_condVS (by simp -dsimp -implicitDefEqProofs; rfl) ?_
                  | refine wp_condV (by simp -dsimp -implicitDefEqProofs; rfl) ?_
                  | refine cond_t ?_ | refine cond_f ?_ | refine cond_v (fun h => ?_) (fun h => ?_)
                  | refine post_then ?_ | refine post_thenE ?_ | refine post_thenP ?_ | refine post_blkP ?_ | refine post_thenR ?_ | refine post_blkN ?_ | refine post_blkE ?_ | refine post_blkF rfl ?_ | refine post_blkR ?_
                  | refine seg_eval (by simp -dsimp -implicitDefEqProofs [avCt, cCt, spCt1, hd, hd2, h64, hx, hPB]; rfl) ?_
                all_goals first
                  | omega
                  | exact ⟨j - 1, by omega, [], [0, 1], rfl, rfl, i + 1, A', B', _, _, by omega, by omega, by omega, hAm, hBm, hab', .inr rfl, .inr rfl, by simp, by simp⟩
                  | trace_state
              · skip
                rw [ha0] at hPA
                simp only [List.map_nil] at hPA
                repeat' with_reducible first
                  | refine wp_regionS (seg_eval (by simp -dsimp -implicitDefEqProofs [avCt, cCt, spCt1, hd, hd2, h64, hx, hPA]; rfl) ?_)
                  | refine wp_region (seg_eval (by simp -dsimp -implicitDefEqProofs [avCt, cCt, spCt1, hd, hd2, h64, hx, hPA]; rfl) ?_)
                  | refine seg_fin ?_
                  | refine seg_pan ?_
                  | refine seg_both ?_ ?_
                  | refine seg_case (fun x h => ?_) (fun h => ?_)
                  | refine seg_gate (fun h => ?_) (fun h => ?_)
                  | refine seg_need ?_ ?_
                  | refine wp_assoc ?_ | refine wp_skipS ?_ | refine wp_retS ?_ | refine wp_exitS ?_ | refine wp_dropS (wp_eqT (by simp -dsimp -implicitDefEqProofs; rfl) ?_) | refine wp_sealS (by simp -dsimp -implicitDefEqProofs; rfl) ?_ | refine wp_seal (by simp -dsimp -implicitDefEqProofs; rfl) ?_ | refine wp_pack_out ?_ | refine wp_blockS ?_ | refine wp_skip' ?_ | refine wp_ret' ?_ | refine wp_exit' ?_ | refine wp_drop (wp_eqT (by simp -dsimp -implicitDefEqProofs; rfl) ?_) | refine wp_block' ?_
                  | refine wp_condVS (by simp -dsimp -implicitDefEqProofs; rfl) ?_
                  | refine wp_condV (by simp -dsimp -implicitDefEqProofs; rfl) ?_
                  | refine cond_t ?_ | refine cond_f ?_ | refine cond_v (fun h => ?_) (fun h => ?_)
                  | refine post_then ?_ | refine post_thenE ?_ | refine post_thenP ?_ | refine post_blkP ?_ | refine post_thenR ?_ | refine post_blkN ?_ | refine post_blkE ?_ | refine post_blkF rfl ?_ | refine post_blkR ?_
                  | refine seg_eval (by simp -dsimp -implicitDefEqProofs [avCt, cCt, spCt1, hd, hd2, h64, hx, hPA]; rfl) ?_
                refine wp_drawsR (fun ts mm => ts = [(7, .ptr 0 0 0), (8, .ptr 1 0 0), (12, .fptr (.agg [.v (.int .u8 w), .v (.bool a), .v (.int .u8 d)]) 0), (53, .fsl 3 (ms.map avCt)), (54, .v (.int .i64 ms.length)), (55, .v (.int .i64 i))] ∧ mm = [.var [.v (.int .i64 v), .v (.int .u16 (m : Nat)), .fsl 3 (A'.map avCt)], .var [.v (.int .i64 v), .v (.int .u16 (m : Nat)), .fsl 3 (B.map avCt)]]) ?_ ?_
                · intro W hW
                  repeat' with_reducible first
                    | refine wp_regionS (seg_eval (by simp -dsimp -implicitDefEqProofs [avCt, cCt, spCt1, hd, hd2, h64, hx, hPA]; rfl) ?_)
                    | refine wp_region (seg_eval (by simp -dsimp -implicitDefEqProofs [avCt, cCt, spCt1, hd, hd2, h64, hx, hPA]; rfl) ?_)
                    | refine wp_drawsS (seg_eval (by simp -dsimp -implicitDefEqProofs [avCt, cCt, spCt1, hd, hd2, h64, hx, hPA]; rfl) ?_)
                    | refine wp_draws (seg_eval (by simp -dsimp -implicitDefEqProofs [avCt, cCt, spCt1, hd, hd2, h64, hx, hPA]; rfl) ?_)
                    | refine seg_fin ?_
                    | refine seg_pan ?_
                    | refine seg_both ?_ ?_
                    | refine seg_case (fun x h => ?_) (fun h => ?_)
                    | refine seg_gate (fun h => ?_) (fun h => ?_)
                    | refine seg_need ?_ ?_
                    | refine wp_assoc ?_ | refine wp_skipS ?_ | refine wp_retS ?_ | refine wp_exitS ?_ | refine wp_dropS (wp_eqT (by simp -dsimp -implicitDefEqProofs; rfl) ?_) | refine wp_sealS (by simp -dsimp -implicitDefEqProofs; rfl) ?_ | refine wp_seal (by simp -dsimp -implicitDefEqProofs; rfl) ?_ | refine wp_pack_out ?_ | refine wp_blockS ?_ | refine wp_skip' ?_ | refine wp_ret' ?_ | refine wp_exit' ?_ | refine wp_drop (wp_eqT (by simp -dsimp -implicitDefEqProofs; rfl) ?_) | refine wp_block' ?_
                    | refine wp_condVS (by simp -dsimp -implicitDefEqProofs; rfl) ?_
                    | refine wp_condV (by simp -dsimp -implicitDefEqProofs; rfl) ?_
                    | refine cond_t ?_ | refine cond_f ?_ | refine cond_v (fun h => ?_) (fun h => ?_)
                    | refine post_then ?_ | refine post_thenE ?_ | refine post_thenP ?_ | refine post_blkP ?_ | refine post_thenR ?_ | refine post_blkN ?_ | refine post_blkE ?_ | refine post_blkF rfl ?_ | refine post_blkR ?_
                    | refine seg_eval (by simp -dsimp -implicitDefEqProofs [avCt, cCt, spCt1, hd, hd2, h64, hx, hPA]; rfl) ?_
                  all_goals first
                    | omega
                    | exact hW _ _ ⟨[], [0, 1], rfl, rfl, by simp [avCt, cCt], by simp⟩
                    | trace_state
                rintro ts mm ⟨rfl, rfl⟩
                repeat' with_reducible first
                  | refine wp_regionS (seg_eval (by simp -dsimp -implicitDefEqProofs [avCt, cCt, spCt1, hd, hd2, h64, hx, hPB]; rfl) ?_)
                  | refine wp_region (seg_eval (by simp -dsimp -implicitDefEqProofs [avCt, cCt, spCt1, hd, hd2, h64, hx, hPB]; rfl) ?_)
                  | refine wp_drawsS (seg_eval (by simp -dsimp -implicitDefEqProofs [avCt, cCt, spCt1, hd, hd2, h64, hx, hPB]; rfl) ?_)
                  | refine wp_draws (seg_eval (by simp -dsimp -implicitDefEqProofs [avCt, cCt, spCt1, hd, hd2, h64, hx, hPB]; rfl) ?_)
                  | refine seg_fin ?_
                  | refine seg_pan ?_
                  | refine seg_both ?_ ?_
                  | refine seg_case (fun x h => ?_) (fun h => ?_)
                  | refine seg_gate (fun h => ?_) (fun h => ?_)
                  | refine seg_need ?_ ?_
                  | refine wp_assoc ?_ | refine wp_skipS ?_ | refine wp_retS ?_ | refine wp_exitS ?_ | refine wp_dropS (wp_eqT (by simp -dsimp -implicitDefEqProofs; rfl) ?_) | refine wp_sealS (by simp -dsimp -implicitDefEqProofs; rfl) ?_ | refine wp_seal (by simp -dsimp -implicitDefEqProofs; rfl) ?_ | refine wp_pack_out ?_ | refine wp_blockS ?_ | refine wp_skip' ?_ | refine wp_ret' ?_ | refine wp_exit' ?_ | refine wp_drop (wp_eqT (by simp -dsimp -implicitDefEqProofs; rfl) ?_) | refine wp_block' ?_
                  | refine wp_condVS (by simp -dsimp -implicitDefEqProofs; rfl) ?_
                  | refine wp_condV (by simp -dsimp -implicitDefEqProofs; rfl) ?_
                  | refine cond_t ?_ | refine cond_f ?_ | refine cond_v (fun h => ?_) (fun h => ?_)
                  | refine post_then ?_ | refine post_thenE ?_ | refine post_thenP ?_ | refine post_blkP ?_ | refine post_thenR ?_ | refine post_blkN ?_ | refine post_blkE ?_ | refine post_blkF rfl ?_ | refine post_blkR ?_
                  | refine seg_eval (by simp -dsimp -implicitDefEqProofs [avCt, cCt, spCt1, hd, hd2, h64, hx, hPB]; rfl) ?_
                all_goals first
                  | omega
                  | exact ⟨j - 1, by omega, [], [0, 1], rfl, rfl, i + 1, A', B', _, _, by omega, by omega, by omega, hAm, hBm, hab', .inr rfl, .inr rfl, by simp, by simp⟩
                  | trace_state
              · skip
                rw [hb0] at hPB
                simp only [List.map_nil] at hPB
                repeat' with_reducible first
                  | refine wp_regionS (seg_eval (by simp -dsimp -implicitDefEqProofs [avCt, cCt, spCt1, hd, hd2, h64, hx, hPA]; rfl) ?_)
                  | refine wp_region (seg_eval (by simp -dsimp -implicitDefEqProofs [avCt, cCt, spCt1, hd, hd2, h64, hx, hPA]; rfl) ?_)
                  | refine seg_fin ?_
                  | refine seg_pan ?_
                  | refine seg_both ?_ ?_
                  | refine seg_case (fun x h => ?_) (fun h => ?_)
                  | refine seg_gate (fun h => ?_) (fun h => ?_)
                  | refine seg_need ?_ ?_
                  | refine wp_assoc ?_ | refine wp_skipS ?_ | refine wp_retS ?_ | refine wp_exitS ?_ | refine wp_dropS (wp_eqT (by simp -dsimp -implicitDefEqProofs; rfl) ?_) | refine wp_sealS (by simp -dsimp -implicitDefEqProofs; rfl) ?_ | refine wp_seal (by simp -dsimp -implicitDefEqProofs; rfl) ?_ | refine wp_pack_out ?_ | refine wp_blockS ?_ | refine wp_skip' ?_ | refine wp_ret' ?_ | refine wp_exit' ?_ | refine wp_drop (wp_eqT (by simp -dsimp -implicitDefEqProofs; rfl) ?_) | refine wp_block' ?_
                  | refine wp_condVS (by simp -dsimp -implicitDefEqProofs; rfl) ?_
                  | refine wp_condV (by simp -dsimp -implicitDefEqProofs; rfl) ?_
                  | refine cond_t ?_ | refine cond_f ?_ | refine cond_v (fun h => ?_) (fun h => ?_)
                  | refine post_then ?_ | refine post_thenE ?_ | refine post_thenP ?_ | refine post_blkP ?_ | refine post_thenR ?_ | refine post_blkN ?_ | refine post_blkE ?_ | refine post_blkF rfl ?_ | refine post_blkR ?_
                  | refine seg_eval (by simp -dsimp -implicitDefEqProofs [avCt, cCt, spCt1, hd, hd2, h64, hx, hPA]; rfl) ?_
                refine wp_drawsR (fun ts mm => ts = [(7, .ptr 0 0 0), (8, .ptr 1 0 0), (12, .fptr (.agg [.v (.int .u8 w), .v (.bool a), .v (.int .u8 d)]) 0), (53, .fsl 3 (ms.map avCt)), (54, .v (.int .i64 ms.length)), (55, .v (.int .i64 i))] ∧ mm = [.var [.v (.int .i64 v), .v (.int .u16 (m : Nat)), .fsl 3 (A'.map avCt)], .var [.v (.int .i64 v), .v (.int .u16 (m : Nat)), .v (.slice none 0 0)]]) ?_ ?_
                · intro W hW
                  repeat' with_reducible first
                    | refine wp_regionS (seg_eval (by simp -dsimp -implicitDefEqProofs [avCt, cCt, spCt1, hd, hd2, h64, hx, hPA]; rfl) ?_)
                    | refine wp_region (seg_eval (by simp -dsimp -implicitDefEqProofs [avCt, cCt, spCt1, hd, hd2, h64, hx, hPA]; rfl) ?_)
                    | refine wp_drawsS (seg_eval (by simp -dsimp -implicitDefEqProofs [avCt, cCt, spCt1, hd, hd2, h64, hx, hPA]; rfl) ?_)
                    | refine wp_draws (seg_eval (by simp -dsimp -implicitDefEqProofs [avCt, cCt, spCt1, hd, hd2, h64, hx, hPA]; rfl) ?_)
                    | refine seg_fin ?_
                    | refine seg_pan ?_
                    | refine seg_both ?_ ?_
                    | refine seg_case (fun x h => ?_) (fun h => ?_)
                    | refine seg_gate (fun h => ?_) (fun h => ?_)
                    | refine seg_need ?_ ?_
                    | refine wp_assoc ?_ | refine wp_skipS ?_ | refine wp_retS ?_ | refine wp_exitS ?_ | refine wp_dropS (wp_eqT (by simp -dsimp -implicitDefEqProofs; rfl) ?_) | refine wp_sealS (by simp -dsimp -implicitDefEqProofs; rfl) ?_ | refine wp_seal (by simp -dsimp -implicitDefEqProofs; rfl) ?_ | refine wp_pack_out ?_ | refine wp_blockS ?_ | refine wp_skip' ?_ | refine wp_ret' ?_ | refine wp_exit' ?_ | refine wp_drop (wp_eqT (by simp -dsimp -implicitDefEqProofs; rfl) ?_) | refine wp_block' ?_
                    | refine wp_condVS (by simp -dsimp -implicitDefEqProofs; rfl) ?_
                    | refine wp_condV (by simp -dsimp -implicitDefEqProofs; rfl) ?_
                    | refine cond_t ?_ | refine cond_f ?_ | refine cond_v (fun h => ?_) (fun h => ?_)
                    | refine post_then ?_ | refine post_thenE ?_ | refine post_thenP ?_ | refine post_blkP ?_ | refine post_thenR ?_ | refine post_blkN ?_ | refine post_blkE ?_ | refine post_blkF rfl ?_ | refine post_blkR ?_
                    | refine seg_eval (by simp -dsimp -implicitDefEqProofs [avCt, cCt, spCt1, hd, hd2, h64, hx, hPA]; rfl) ?_
                  all_goals first
                    | omega
                    | exact hW _ _ ⟨[], [0, 1], rfl, rfl, by simp [avCt, cCt], by simp⟩
                    | trace_state
                rintro ts mm ⟨rfl, rfl⟩
                repeat' with_reducible first
                  | refine wp_regionS (seg_eval (by simp -dsimp -implicitDefEqProofs [avCt, cCt, spCt1, hd, hd2, h64, hx, hPB]; rfl) ?_)
                  | refine wp_region (seg_eval (by simp -dsimp -implicitDefEqProofs [avCt, cCt, spCt1, hd, hd2, h64, hx, hPB]; rfl) ?_)
                  | refine wp_drawsS (seg_eval (by simp -dsimp -implicitDefEqProofs [avCt, cCt, spCt1, hd, hd2, h64, hx, hPB]; rfl) ?_)
                  | refine wp_draws (seg_eval (by simp -dsimp -implicitDefEqProofs [avCt, cCt, spCt1, hd, hd2, h64, hx, hPB]; rfl) ?_)
                  | refine seg_fin ?_
                  | refine seg_pan ?_
                  | refine seg_both ?_ ?_
                  | refine seg_case (fun x h => ?_) (fun h => ?_)
                  | refine seg_gate (fun h => ?_) (fun h => ?_)
                  | refine seg_need ?_ ?_
                  | refine wp_assoc ?_ | refine wp_skipS ?_ | refine wp_retS ?_ | refine wp_exitS ?_ | refine wp_dropS (wp_eqT (by simp -dsimp -implicitDefEqProofs; rfl) ?_) | refine wp_sealS (by simp -dsimp -implicitDefEqProofs; rfl) ?_ | refine wp_seal (by simp -dsimp -implicitDefEqProofs; rfl) ?_ | refine wp_pack_out ?_ | refine wp_blockS ?_ | refine wp_skip' ?_ | refine wp_ret' ?_ | refine wp_exit' ?_ | refine wp_drop (wp_eqT (by simp -dsimp -implicitDefEqProofs; rfl) ?_) | refine wp_block' ?_
                  | refine wp_condVS (by simp -dsimp -implicitDefEqProofs; rfl) ?_
                  | refine wp_condV (by simp -dsimp -implicitDefEqProofs; rfl) ?_
                  | refine cond_t ?_ | refine cond_f ?_ | refine cond_v (fun h => ?_) (fun h => ?_)
                  | refine post_then ?_ | refine post_thenE ?_ | refine post_thenP ?_ | refine post_blkP ?_ | refine post_thenR ?_ | refine post_blkN ?_ | refine post_blkE ?_ | refine post_blkF rfl ?_ | refine post_blkR ?_
                  | refine seg_eval (by simp -dsimp -implicitDefEqProofs [avCt, cCt, spCt1, hd, hd2, h64, hx, hPB]; rfl) ?_
                all_goals first
                  | omega
                  | exact ⟨j - 1, by omega, [], [0, 1], rfl, rfl, i + 1, A', B', _, _, by omega, by omega, by omega, hAm, hBm, hab', .inr rfl, .inr rfl, by simp, by simp⟩
                  | trace_state
              · skip
                repeat' with_reducible first
                  | refine wp_regionS (seg_eval (by simp -dsimp -implicitDefEqProofs [avCt, cCt, spCt1, hd, hd2, h64, hx, hPA]; rfl) ?_)
                  | refine wp_region (seg_eval (by simp -dsimp -implicitDefEqProofs [avCt, cCt, spCt1, hd, hd2, h64, hx, hPA]; rfl) ?_)
                  | refine seg_fin ?_
                  | refine seg_pan ?_
                  | refine seg_both ?_ ?_
                  | refine seg_case (fun x h => ?_) (fun h => ?_)
                  | refine seg_gate (fun h => ?_) (fun h => ?_)
                  | refine seg_need ?_ ?_
                  | refine wp_assoc ?_ | refine wp_skipS ?_ | refine wp_retS ?_ | refine wp_exitS ?_ | refine wp_dropS (wp_eqT (by simp -dsimp -implicitDefEqProofs; rfl) ?_) | refine wp_sealS (by simp -dsimp -implicitDefEqProofs; rfl) ?_ | refine wp_seal (by simp -dsimp -implicitDefEqProofs; rfl) ?_ | refine wp_pack_out ?_ | refine wp_blockS ?_ | refine wp_skip' ?_ | refine wp_ret' ?_ | refine wp_exit' ?_ | refine wp_drop (wp_eqT (by simp -dsimp -implicitDefEqProofs; rfl) ?_) | refine wp_block' ?_
                  | refine wp_condVS (by simp -dsimp -implicitDefEqProofs; rfl) ?_
                  | refine wp_condV (by simp -dsimp -implicitDefEqProofs; rfl) ?_
                  | refine cond_t ?_ | refine cond_f ?_ | refine cond_v (fun h => ?_) (fun h => ?_)
                  | refine post_then ?_ | refine post_thenE ?_ | refine post_thenP ?_ | refine post_blkP ?_ | refine post_thenR ?_ | refine post_blkN ?_ | refine post_blkE ?_ | refine post_blkF rfl ?_ | refine post_blkR ?_
                  | refine seg_eval (by simp -dsimp -implicitDefEqProofs [avCt, cCt, spCt1, hd, hd2, h64, hx, hPA]; rfl) ?_
                refine wp_drawsR (fun ts mm => ts = [(7, .ptr 0 0 0), (8, .ptr 1 0 0), (12, .fptr (.agg [.v (.int .u8 w), .v (.bool a), .v (.int .u8 d)]) 0), (53, .fsl 3 (ms.map avCt)), (54, .v (.int .i64 ms.length)), (55, .v (.int .i64 i))] ∧ mm = [.var [.v (.int .i64 v), .v (.int .u16 (m : Nat)), .fsl 3 (A'.map avCt)], .var [.v (.int .i64 v), .v (.int .u16 (m : Nat)), .fsl 3 (B.map avCt)]]) ?_ ?_
                · intro W hW
                  repeat' with_reducible first
                    | refine wp_regionS (seg_eval (by simp -dsimp -implicitDefEqProofs [avCt, cCt, spCt1, hd, hd2, h64, hx, hPA]; rfl) ?_)
                    | refine wp_region (seg_eval (by simp -dsimp -implicitDefEqProofs [avCt, cCt, spCt1, hd, hd2, h64, hx, hPA]; rfl) ?_)
                    | refine wp_drawsS (seg_eval (by simp -dsimp -implicitDefEqProofs [avCt, cCt, spCt1, hd, hd2, h64, hx, hPA]; rfl) ?_)
                    | refine wp_draws (seg_eval (by simp -dsimp -implicitDefEqProofs [avCt, cCt, spCt1, hd, hd2, h64, hx, hPA]; rfl) ?_)
                    | refine seg_fin ?_
                    | refine seg_pan ?_
                    | refine seg_both ?_ ?_
                    | refine seg_case (fun x h => ?_) (fun h => ?_)
                    | refine seg_gate (fun h => ?_) (fun h => ?_)
                    | refine seg_need ?_ ?_
                    | refine wp_assoc ?_ | refine wp_skipS ?_ | refine wp_retS ?_ | refine wp_exitS ?_ | refine wp_dropS (wp_eqT (by simp -dsimp -implicitDefEqProofs; rfl) ?_) | refine wp_sealS (by simp -dsimp -implicitDefEqProofs; rfl) ?_ | refine wp_seal (by simp -dsimp -implicitDefEqProofs; rfl) ?_ | refine wp_pack_out ?_ | refine wp_blockS ?_ | refine wp_skip' ?_ | refine wp_ret' ?_ | refine wp_exit' ?_ | refine wp_drop (wp_eqT (by simp -dsimp -implicitDefEqProofs; rfl) ?_) | refine wp_block' ?_
                    | refine wp_condVS (by simp -dsimp -implicitDefEqProofs; rfl) ?_
                    | refine wp_condV (by simp -dsimp -implicitDefEqProofs; rfl) ?_
                    | refine cond_t ?_ | refine cond_f ?_ | refine cond_v (fun h => ?_) (fun h => ?_)
                    | refine post_then ?_ | refine post_thenE ?_ | refine post_thenP ?_ | refine post_blkP ?_ | refine post_thenR ?_ | refine post_blkN ?_ | refine post_blkE ?_ | refine post_blkF rfl ?_ | refine post_blkR ?_
                    | refine seg_eval (by simp -dsimp -implicitDefEqProofs [avCt, cCt, spCt1, hd, hd2, h64, hx, hPA]; rfl) ?_
                  all_goals first
                    | omega
                    | exact hW _ _ ⟨[], [0, 1], rfl, rfl, by simp [avCt, cCt], by simp⟩
                    | trace_state
                rintro ts mm ⟨rfl, rfl⟩
                repeat' with_reducible first
                  | refine wp_regionS (seg_eval (by simp -dsimp -implicitDefEqProofs [avCt, cCt, spCt1, hd, hd2, h64, hx, hPB]; rfl) ?_)
                  | refine wp_region (seg_eval (by simp -dsimp -implicitDefEqProofs [avCt, cCt, spCt1, hd, hd2, h64, hx, hPB]; rfl) ?_)
                  | refine wp_drawsS (seg_eval (by simp -dsimp -implicitDefEqProofs [avCt, cCt, spCt1, hd, hd2, h64, hx, hPB]; rfl) ?_)
                  | refine wp_draws (seg_eval (by simp -dsimp -implicitDefEqProofs [avCt, cCt, spCt1, hd, hd2, h64, hx, hPB]; rfl) ?_)
                  | refine seg_fin ?_
                  | refine seg_pan ?_
                  | refine seg_both ?_ ?_
                  | refine seg_case (fun x h => ?_) (fun h => ?_)
                  | refine seg_gate (fun h => ?_) (fun h => ?_)
                  | refine seg_need ?_ ?_
                  | refine wp_assoc ?_ | refine wp_skipS ?_ | refine wp_retS ?_ | refine wp_exitS ?_ | refine wp_dropS (wp_eqT (by simp -dsimp -implicitDefEqProofs; rfl) ?_) | refine wp_sealS (by simp -dsimp -implicitDefEqProofs; rfl) ?_ | refine wp_seal (by simp -dsimp -implicitDefEqProofs; rfl) ?_ | refine wp_pack_out ?_ | refine wp_blockS ?_ | refine wp_skip' ?_ | refine wp_ret' ?_ | refine wp_exit' ?_ | refine wp_drop (wp_eqT (by simp -dsimp -implicitDefEqProofs; rfl) ?_) | refine wp_block' ?_
                  | refine wp_condVS (by simp -dsimp -implicitDefEqProofs; rfl) ?_
                  | refine wp_condV (by simp -dsimp -implicitDefEqProofs; rfl) ?_
                  | refine cond_t ?_ | refine cond_f ?_ | refine cond_v (fun h => ?_) (fun h => ?_)
                  | refine post_then ?_ | refine post_thenE ?_ | refine post_thenP ?_ | refine post_blkP ?_ | refine post_thenR ?_ | refine post_blkN ?_ | refine post_blkE ?_ | refine post_blkF rfl ?_ | refine post_blkR ?_
                  | refine seg_eval (by simp -dsimp -implicitDefEqProofs [avCt, cCt, spCt1, hd, hd2, h64, hx, hPB]; rfl) ?_
                all_goals first
                  | omega
                  | exact ⟨j - 1, by omega, [], [0, 1], rfl, rfl, i + 1, A', B', _, _, by omega, by omega, by omega, hAm, hBm, hab', .inr rfl, .inr rfl, by simp, by simp⟩
                  | trace_state
            · have hd : decide ((i : Int) < (ms.length : Int)) = false := by rw [decide_eq_false_iff_not]; omega
              have hd2 : decide (i < ms.length) = false := by simp [hlt]
              repeat' with_reducible first
                | refine wp_regionS (seg_eval (by simp -dsimp -implicitDefEqProofs [hd, hd2]; rfl) ?_)
                | refine wp_region (seg_eval (by simp -dsimp -implicitDefEqProofs [hd, hd2]; rfl) ?_)
                | refine wp_drawsS (seg_eval (by simp -dsimp -implicitDefEqProofs [hd, hd2]; rfl) ?_)
                | refine wp_draws (seg_eval (by simp -dsimp -implicitDefEqProofs [hd, hd2]; rfl) ?_)
                | refine seg_fin ?_
                | refine seg_pan ?_
                | refine seg_both ?_ ?_
                | refine seg_case (fun x h => ?_) (fun h => ?_)
                | refine seg_gate (fun h => ?_) (fun h => ?_)
                | refine seg_need ?_ ?_
                | refine wp_assoc ?_ | refine wp_skipS ?_ | refine wp_retS ?_ | refine wp_exitS ?_ | refine wp_dropS (wp_eqT (by simp -dsimp -implicitDefEqProofs; rfl) ?_) | refine wp_sealS (by simp -dsimp -implicitDefEqProofs; rfl) ?_ | refine wp_seal (by simp -dsimp -implicitDefEqProofs; rfl) ?_ | refine wp_pack_out ?_ | refine wp_blockS ?_ | refine wp_skip' ?_ | refine wp_ret' ?_ | refine wp_exit' ?_ | refine wp_drop (wp_eqT (by simp -dsimp -implicitDefEqProofs; rfl) ?_) | refine wp_block' ?_
                | refine wp_condVS (by simp -dsimp -implicitDefEqProofs; rfl) ?_
                | refine wp_condV (by simp -dsimp -implicitDefEqProofs; rfl) ?_
                | refine cond_t ?_ | refine cond_f ?_ | refine cond_v (fun h => ?_) (fun h => ?_)
                | refine post_then ?_ | refine post_thenE ?_ | refine post_thenP ?_ | refine post_blkP ?_ | refine post_thenR ?_ | refine post_blkN ?_ | refine post_blkE ?_ | refine post_blkF rfl ?_ | refine post_blkR ?_
                | refine seg_eval (by simp -dsimp -implicitDefEqProofs [hd, hd2]; rfl) ?_
              exact hW _ _ ⟨A, B, ba, bb, by omega, by omega, hA, hB, hab, hba, hbb, by simp, by simp⟩
          · clear hbb' hb' bb'
            rintro ts mm ⟨A, B, ba, bb, hla, hlb, hA, hB, hab, hba, hbb, rfl, rfl⟩
            have hHA := chosenAt v m A
            rw [if_pos ⟨hm, by omega, hA⟩] at hHA
            have hHB := chosenAt v m B
            rw [if_pos ⟨hm, by omega, hB⟩] at hHB
            have hal := alike hm hab hA hB (by omega)
            generalize chosenC v m A = ca at *
            generalize chosenC v m B = cb at *
            obtain ⟨⟨ca1, ca2⟩, ca3⟩ := ca
            obtain ⟨⟨cb1, cb2⟩, cb3⟩ := cb
            simp only [Prod.mk.injEq] at hHA hHB hal
            rcases hba with ⟨ha0, rfl⟩ | rfl <;> rcases hbb with ⟨hb0, rfl⟩ | rfl <;> cases ca3 <;> cases cb3
            all_goals (
              try (rw [ha0] at hHA; simp only [List.map_nil] at hHA)
              try (rw [hb0] at hHB; simp only [List.map_nil] at hHB)
              try (obtain ⟨e1, e2⟩ := hal rfl rfl; subst e1 e2)
              repeat' with_reducible first
                | refine wp_regionS (seg_eval (by simp -dsimp -implicitDefEqProofs [hHA, hHB, eqCells_bi]; rfl) ?_)
                | refine wp_region (seg_eval (by simp -dsimp -implicitDefEqProofs [hHA, hHB, eqCells_bi]; rfl) ?_)
                | refine wp_drawsS (seg_eval (by simp -dsimp -implicitDefEqProofs [hHA, hHB, eqCells_bi]; rfl) ?_)
                | refine wp_draws (seg_eval (by simp -dsimp -implicitDefEqProofs [hHA, hHB, eqCells_bi]; rfl) ?_)
                | refine seg_fin ?_
                | refine seg_pan ?_
                | refine seg_both ?_ ?_
                | refine seg_case (fun x h => ?_) (fun h => ?_)
                | refine seg_gate (fun h => ?_) (fun h => ?_)
                | refine seg_need ?_ ?_
                | refine wp_assoc ?_ | refine wp_skipS ?_ | refine wp_retS ?_ | refine wp_exitS ?_ | refine wp_dropS (wp_eqT (by simp -dsimp -implicitDefEqProofs; rfl) ?_) | refine wp_sealS (by simp -dsimp -implicitDefEqProofs; rfl) ?_ | refine wp_seal (by simp -dsimp -implicitDefEqProofs; rfl) ?_ | refine wp_pack_out ?_ | refine wp_blockS ?_ | refine wp_skip' ?_ | refine wp_ret' ?_ | refine wp_exit' ?_ | refine wp_drop (wp_eqT (by simp -dsimp -implicitDefEqProofs; rfl) ?_) | refine wp_block' ?_
                | refine wp_condVS (by simp -dsimp -implicitDefEqProofs; rfl) ?_
                | refine wp_condV (by simp -dsimp -implicitDefEqProofs; rfl) ?_
                | refine cond_t ?_ | refine cond_f ?_ | refine cond_v (fun h => ?_) (fun h => ?_)
                | refine post_then ?_ | refine post_thenE ?_ | refine post_thenP ?_ | refine post_blkP ?_ | refine post_thenR ?_ | refine post_blkN ?_ | refine post_blkE ?_ | refine post_blkF rfl ?_ | refine post_blkR ?_
                | refine seg_eval (by simp -dsimp -implicitDefEqProofs [hHA, hHB, eqCells_bi]; rfl) ?_
              all_goals first
                | exact post_fin rfl rfl ⟨[], [], rfl, rfl, rfl, rfl⟩
                | trace_state))
end Go.Proofs.Ytbponegjfccgfaa.Am
