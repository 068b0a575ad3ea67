/-
  EACH MEMBER WANTS ONE THING.
-/
import Derived.Test.YtbponegjfccgfaaBPL
import Derived.Test.YtbponegjfccgfaaCodeT
namespace Go.Proofs.Ytbponegjfccgfaa.Am
set_option linter.unusedSimpArgs false
set_option linter.unusedVariables false
open Go Go.Proofs
attribute [local irreducible] wpA
attribute [-simp] splice

theorem put_again {v : Int} {m : Nat} {l : List Ct} {c : Ct} (h : (putC v m l c).2 = 0) : putC v m (putC v m l c).1 c = ((putC v m l c).1, 9) := by
  have hb := box_put h
  obtain ⟨h1, h2, h3, h4⟩ := putC_zero.1 h
  have hk : isK' keyCt c.who (putC v m l c).1 = true := by
    cases hc : isK' keyCt c.who (putC v m l c).1
    · refine absurd rfl (isK_false.1 hc c ?_)
      rw [putC_yes h]
      exact mem_insK.2 (.inl rfl)
    · rfl
  generalize (putC v m l c).1 = l' at *
  unfold putC
  rw [if_neg (by simp [hb]), if_neg (by simp [h2]), if_pos hk]
theorem has_put {v : Int} {m : Nat} {l : List Ct} {c : Ct} (hm : m < 65536) (h : (putC v m l c).2 = 0) : hasS (forC v m (putC v m l c).1 c.add c.id) c.who.toNat = true := by
  unfold forC
  rw [if_pos (box_put h)]
  obtain ⟨h1, h2, h3, h4⟩ := putC_zero.1 h
  refine has_forS.2 ⟨has_lt hm h2, c, ?_, rfl, rfl, rfl⟩
  rw [putC_yes h]
  exact mem_insK.2 (.inl rfl)
theorem for_sub {v : Int} {m : Nat} {l : List Ct} {a : Bool} {d : Int} (i : Nat) (h : hasS (forC v m l a d) i = true) : hasS m i = true := by
  unfold forC at h
  split at h
  · rename_i hb; exact for_mem hb i h
  · rw [has_zero] at h; cases h
theorem for_apart {v : Int} {m : Nat} {l : List Ct} (hok : ∀ y ∈ l, okCt y) {a b : Bool} {d e : Int} (hne : ¬ (a = b ∧ d = e)) : forC v m l a d &&& forC v m l b e = 0 := by
  unfold forC
  split
  · rename_i hb
    refine Nat.eq_of_testBit_eq fun i => ?_
    rw [Nat.testBit_and, Nat.zero_testBit]
    cases h1 : (forS l a d).testBit i
    · rfl
    · have := (for_two hb hok hne i h1).2
      unfold hasS at this
      rw [this]; rfl
  · simp
theorem andnot_zero {A M : Nat} (h : ∀ i, hasS A i = true → hasS M i = true) : andNotI .u16 (A : Int) (M : Int) = 0 := by
  unfold andNotI
  have h1 : BitVec.ofInt (IntKind.bits .u16) (A : Int) = BitVec.ofNat 16 A := BitVec.ofInt_natCast 16 A
  have h2 : BitVec.ofInt (IntKind.bits .u16) (M : Int) = BitVec.ofNat 16 M := BitVec.ofInt_natCast 16 M
  rw [h1, h2]
  have h3 : BitVec.ofNat 16 A &&& ~~~(BitVec.ofNat 16 M) = 0#16 := by
    apply BitVec.eq_of_getLsbD_eq
    intro i hi
    rw [BitVec.getLsbD_and, BitVec.getLsbD_not, BitVec.getLsbD_ofNat, BitVec.getLsbD_ofNat]
    have := h i
    unfold hasS at this
    cases hA : A.testBit i
    · simp
    · simp [this hA, hi]
  show IntKind.wrap .u16 (((BitVec.ofNat 16 A &&& ~~~(BitVec.ofNat 16 M)).toNat : Nat) : Int) = 0
  rw [h3]
  decide
theorem or_sub {v : Int} {m : Nat} {l : List Ct} {a b : Bool} {d e : Int} (i : Nat) (h : hasS (forC v m l a d ||| forC v m l b e) i = true) : hasS m i = true := by
  unfold hasS at h
  rw [Nat.testBit_or, Bool.or_eq_true] at h
  rcases h with h | h
  · exact for_sub i h
  · exact for_sub i h

noncomputable def spBallotTwice : Spec := spc (X := Int × Nat × List Ct × ((Bool × Int) × (Bool × Int))) (fun p => ([.agg [.v (.int .i64 p.1), .v (.int .u16 (p.2.1 : Nat))], .fsl 3 (p.2.2.1.map avCt), .agg [.v (.bool p.2.2.2.1.1), .v (.int .u8 p.2.2.2.1.2), .v (.bool p.2.2.2.2.1), .v (.int .u8 p.2.2.2.2.2)]], []))
  (fun p => p.2.1 < 65536 ∧ (∀ y ∈ p.2.2.1, okCt y) ∧ p.2.2.1.length ≤ maxLen ∧ (0 ≤ p.2.2.2.1.2 ∧ p.2.2.2.1.2 < 256) ∧ (0 ≤ p.2.2.2.2.2 ∧ p.2.2.2.2.2 < 256)) (fun _ => (.ret (.v (.bool true)), []))
def flB (v : Int) (m : Nat) (l : List Ct) (b : Blk) : Prop := (l = [] ∧ b = .var [.v (.int .i64 v), .v (.int .u16 (m : Nat)), .v (.slice none 0 0)]) ∨ b = .var [.v (.int .i64 v), .v (.int .u16 (m : Nat)), .fsl 3 (l.map avCt)]

set_option maxHeartbeats 40000000 in
theorem ballotTwice_ok : CallOk Try.prog 12 spBallotTwice := by
  refine okp_12 (Env.put_ok [] (Env.put_ok [] (Env.put_ok [] (Env.put_ok [] (Env.put_ok [] (Env.none_ok _) alive12_ok) theirs1_ok) (CallOk.fixD [.agg [.no, .no, .k 3]] putC_ok)) (CallOk.fixD [.agg [.no, .no, .k 3]] forC_ok)) hasR_ok) spBallotTwice (wb_spc ?_)
  rintro ⟨v, m, ms, ⟨xa, xi⟩, ⟨ya, yi⟩⟩ ⟨hm, hms, hmx, _, _⟩
  simp only at hm hms hmx ⊢
  have hml : (m : Int) < 65536 := by omega
  have hxl : ms.length ≤ 9223372036854775807 := by have := hmx; unfold maxLen at this; omega
  unfold acp_12
  repeat' with_reducible first
    | refine wp_regionS (seg_eval (by simp -dsimp -implicitDefEqProofs [spAliveB]; rfl) ?_)
    | refine wp_region (seg_eval (by simp -dsimp -implicitDefEqProofs [spAliveB]; rfl) ?_)
    | refine seg_fin ?_
    | refine seg_pan ?_
    | refine seg_both ?_ ?_
    | refine seg_case (fun x h => ?_) (fun h => ?_)
    | refine seg_gate (fun h => ?_) (fun h => ?_)
    | refine seg_need ?_ ?_
    | refine wp_assoc ?_ | refine wp_skipS ?_ | refine wp_retS ?_ | refine wp_exitS ?_ | refine wp_dropS (wp_eqT (by simp -dsimp -implicitDefEqProofs; rfl) ?_) | refine wp_sealS (by simp -dsimp -implicitDefEqProofs; rfl) ?_ | refine wp_seal (by simp -dsimp -implicitDefEqProofs; rfl) ?_ | refine wp_pack_out ?_ | refine wp_blockS ?_ | refine wp_skip' ?_ | refine wp_ret' ?_ | refine wp_exit' ?_ | refine wp_drop (wp_eqT (by simp -dsimp -implicitDefEqProofs; rfl) ?_) | refine wp_block' ?_
    | refine wp_condVS (by simp -dsimp -implicitDefEqProofs; rfl) ?_
    | refine wp_condV (by simp -dsimp -implicitDefEqProofs; rfl) ?_
    | refine cond_t ?_ | refine cond_f ?_ | refine cond_v (fun h => ?_) (fun h => ?_)
    | refine post_then ?_ | refine post_thenE ?_ | refine post_thenP ?_ | refine post_blkP ?_ | refine post_thenR ?_ | refine post_blkN ?_ | refine post_blkE ?_ | refine post_blkF rfl ?_ | refine post_blkR ?_
    | refine seg_eval (by simp -dsimp -implicitDefEqProofs [spAliveB]; rfl) ?_
  refine wp_drawsR (fun ts mm => ts = [(1, .fsl 3 (ms.map avCt)), (3, .fptr (.agg [.v (.int .i64 v), .v (.int .u16 (m : Nat))]) 0), (7, .ptr 0 0 0), (8, .ptr 1 0 0)] ∧ mm = [.var [.v (.bool xa), .v (.int .u8 xi)], .var [.v (.bool ya), .v (.int .u8 yi)]]) ?_ ?_
  · intro W hW
    repeat' with_reducible first
      | refine wp_regionS (seg_eval (by simp -dsimp -implicitDefEqProofs [spAliveB]; rfl) ?_)
      | refine wp_region (seg_eval (by simp -dsimp -implicitDefEqProofs [spAliveB]; rfl) ?_)
      | refine wp_drawsS (seg_eval (by simp -dsimp -implicitDefEqProofs [spAliveB]; rfl) ?_)
      | refine wp_draws (seg_eval (by simp -dsimp -implicitDefEqProofs [spAliveB]; rfl) ?_)
      | refine seg_fin ?_
      | refine seg_pan ?_
      | refine seg_both ?_ ?_
      | refine seg_case (fun x h => ?_) (fun h => ?_)
      | refine seg_gate (fun h => ?_) (fun h => ?_)
      | refine seg_need ?_ ?_
      | refine wp_assoc ?_ | refine wp_skipS ?_ | refine wp_retS ?_ | refine wp_exitS ?_ | refine wp_dropS (wp_eqT (by simp -dsimp -implicitDefEqProofs; rfl) ?_) | refine wp_sealS (by simp -dsimp -implicitDefEqProofs; rfl) ?_ | refine wp_seal (by simp -dsimp -implicitDefEqProofs; rfl) ?_ | refine wp_pack_out ?_ | refine wp_blockS ?_ | refine wp_skip' ?_ | refine wp_ret' ?_ | refine wp_exit' ?_ | refine wp_drop (wp_eqT (by simp -dsimp -implicitDefEqProofs; rfl) ?_) | refine wp_block' ?_
      | refine wp_condVS (by simp -dsimp -implicitDefEqProofs; rfl) ?_
      | refine wp_condV (by simp -dsimp -implicitDefEqProofs; rfl) ?_
      | refine cond_t ?_ | refine cond_f ?_ | refine cond_v (fun h => ?_) (fun h => ?_)
      | refine post_then ?_ | refine post_thenE ?_ | refine post_thenP ?_ | refine post_blkP ?_ | refine post_thenR ?_ | refine post_blkN ?_ | refine post_blkE ?_ | refine post_blkF rfl ?_ | refine post_blkR ?_
      | refine seg_eval (by simp -dsimp -implicitDefEqProofs [spAliveB]; rfl) ?_
    all_goals first
      | (refine hW _ _ ⟨[], [2, 3], rfl, rfl, ?_, ?_⟩
         · simp; done
         · simp; done)
      | (refine hW _ _ ⟨[], [3, 2], rfl, rfl, ?_, ?_⟩
         · simp; done
         · simp; done)
      | trace_state
  rintro ts mm ⟨rfl, rfl⟩
  repeat' with_reducible first
    | refine wp_regionS (seg_eval (by simp -dsimp -implicitDefEqProofs [spAliveB]; rfl) ?_)
    | refine wp_region (seg_eval (by simp -dsimp -implicitDefEqProofs [spAliveB]; rfl) ?_)
    | refine seg_fin ?_
    | refine seg_pan ?_
    | refine seg_both ?_ ?_
    | refine seg_case (fun x h => ?_) (fun h => ?_)
    | refine seg_gate (fun h => ?_) (fun h => ?_)
    | refine seg_need ?_ ?_
    | refine wp_assoc ?_ | refine wp_skipS ?_ | refine wp_retS ?_ | refine wp_exitS ?_ | refine wp_dropS (wp_eqT (by simp -dsimp -implicitDefEqProofs; rfl) ?_) | refine wp_sealS (by simp -dsimp -implicitDefEqProofs; rfl) ?_ | refine wp_seal (by simp -dsimp -implicitDefEqProofs; rfl) ?_ | refine wp_pack_out ?_ | refine wp_blockS ?_ | refine wp_skip' ?_ | refine wp_ret' ?_ | refine wp_exit' ?_ | refine wp_drop (wp_eqT (by simp -dsimp -implicitDefEqProofs; rfl) ?_) | refine wp_block' ?_
    | refine wp_condVS (by simp -dsimp -implicitDefEqProofs; rfl) ?_
    | refine wp_condV (by simp -dsimp -implicitDefEqProofs; rfl) ?_
    | refine cond_t ?_ | refine cond_f ?_ | refine cond_v (fun h => ?_) (fun h => ?_)
    | refine post_then ?_ | refine post_thenE ?_ | refine post_thenP ?_ | refine post_blkP ?_ | refine post_thenR ?_ | refine post_blkN ?_ | refine post_blkE ?_ | refine post_blkF rfl ?_ | refine post_blkR ?_
    | refine seg_eval (by simp -dsimp -implicitDefEqProofs [spAliveB]; rfl) ?_
  refine wp_loopR (fun ts mm => ∃ (l : List Ct) (bb : Blk), l.length ≤ 60 ∧ (∀ y ∈ l, okCt y) ∧ flB v m l bb ∧
      ts = [(3, .fptr (.agg [.v (.int .i64 v), .v (.int .u16 (m : Nat))]) 0), (7, .ptr 0 0 0), (8, .ptr 1 0 0), (9, .ptr 2 0 0)] ∧ mm = [.var [.v (.bool xa), .v (.int .u8 xi)], .var [.v (.bool ya), .v (.int .u8 yi)], bb])
    (fun j ts mm => ∃ (i : Nat) (l : List Ct) (bb : Blk), i + j = ms.length ∧ l.length ≤ i ∧ i ≤ 60 ∧ (∀ y ∈ l, okCt y) ∧ flB v m l bb ∧
      ts = [(1, .fsl 3 (ms.map avCt)), (3, .fptr (.agg [.v (.int .i64 v), .v (.int .u16 (m : Nat))]) 0), (7, .ptr 0 0 0), (8, .ptr 1 0 0), (9, .ptr 2 0 0), (10, .v (.int .i64 i))] ∧ mm = [.var [.v (.bool xa), .v (.int .u8 xi)], .var [.v (.bool ya), .v (.int .u8 yi)], bb]) ms.length ?_ ?_ ?_
  · exact ⟨[], [0, 1, 2], rfl, rfl, 0, [], _, by omega, by simp, by omega, by simp, .inl ⟨rfl, rfl⟩, by simp, by simp⟩
  · rintro W0 hW0 j ts mm ⟨i, l, bb, hi, hll, hi60, hok, hbb, rfl, rfl⟩
    by_cases hlt : i < ms.length
    · have hd : decide ((i : Int) < (ms.length : Int)) = true := by rw [decide_eq_true_eq]; omega
      have hd2 : decide (i < ms.length) = true := by simp [hlt]
      by_cases h60 : i < 60
      · have hd4 : decide ((i : Int) < 60) = true := by rw [decide_eq_true_eq]; omega
        have hd5 : decide (i < 60) = true := by simp [h60]
        obtain ⟨x, hx⟩ : ∃ x, ms[i]? = some x := ⟨_, List.getElem?_eq_getElem (by omega)⟩
        have hc := hms x (List.mem_of_getElem? hx)
        have h64 : IntKind.wrap .i64 ((i : Int) + 1) = ((i + 1 : Nat) : Int) := by rw [IntWalk.i64_in _ (by omega)]; rfl
        obtain ⟨w, a, d⟩ := x
        obtain ⟨hw0, hw1, _, _⟩ := id hc
        simp only at hw0 hw1
        have hP := putCAt v m l w a d
        rw [if_pos ⟨hm, by omega, hok, hc⟩] at hP
        have hpm : ∀ y ∈ (putC v m l ⟨w, a, d⟩).1, okCt y := fun y hy => by
          rcases putC_mem hy with rfl | hy
          · exact hc
          · exact hok y hy
        have hpl := putC_len v m l ⟨w, a, d⟩
        by_cases hz : (putC v m l ⟨w, a, d⟩).2 = 0
        · have hP2 := putCAt v m (putC v m l ⟨w, a, d⟩).1 w a d
          rw [if_pos ⟨hm, by omega, hpm, hc⟩, put_again hz] at hP2
          have hF := forCAt v m (putC v m l ⟨w, a, d⟩).1 a d
          rw [if_pos ⟨hm, by omega, hpm⟩] at hF
          have hFl := forC_lt v m (putC v m l ⟨w, a, d⟩).1 a d
          have hh := has_put hm hz
          simp only at hh
          rw [hz] at hP
          generalize (putC v m l ⟨w, a, d⟩).1 = l' at *
          generalize forC v m l' a d = f at *
          rcases hbb with ⟨hl0, rfl⟩ | rfl
          · rw [hl0] at hP
            simp only [List.map_nil] at hP
            repeat' with_reducible first
              | refine wp_regionS (seg_eval (by simp -dsimp -implicitDefEqProofs [avCt, cCt, spCt1, hd, hd2, hd4, hd5, h64, hx, hP, hP2, hF, hFl, hh, hw0, hw1, spHas]; rfl) ?_)
              | refine wp_region (seg_eval (by simp -dsimp -implicitDefEqProofs [avCt, cCt, spCt1, hd, hd2, hd4, hd5, h64, hx, hP, hP2, hF, hFl, hh, hw0, hw1, spHas]; rfl) ?_)
              | refine seg_fin ?_
              | refine seg_pan ?_
              | refine seg_both ?_ ?_
              | refine seg_case (fun x h => ?_) (fun h => ?_)
              | refine seg_gate (fun h => ?_) (fun h => ?_)
              | refine seg_need ?_ ?_
              | refine wp_assoc ?_ | refine wp_skipS ?_ | refine wp_retS ?_ | refine wp_exitS ?_ | refine wp_dropS (wp_eqT (by simp -dsimp -implicitDefEqProofs; rfl) ?_) | refine wp_sealS (by simp -dsimp -implicitDefEqProofs; rfl) ?_ | refine wp_seal (by simp -dsimp -implicitDefEqProofs; rfl) ?_ | refine wp_pack_out ?_ | refine wp_blockS ?_ | refine wp_skip' ?_ | refine wp_ret' ?_ | refine wp_exit' ?_ | refine wp_drop (wp_eqT (by simp -dsimp -implicitDefEqProofs; rfl) ?_) | refine wp_block' ?_
              | refine wp_condVS (by simp -dsimp -implicitDefEqProofs; rfl) ?_
              | refine wp_condV (by simp -dsimp -implicitDefEqProofs; rfl) ?_
              | refine cond_t ?_ | refine cond_f ?_ | refine cond_v (fun h => ?_) (fun h => ?_)
              | refine post_then ?_ | refine post_thenE ?_ | refine post_thenP ?_ | refine post_blkP ?_ | refine post_thenR ?_ | refine post_blkN ?_ | refine post_blkE ?_ | refine post_blkF rfl ?_ | refine post_blkR ?_
              | refine seg_eval (by simp -dsimp -implicitDefEqProofs [avCt, cCt, spCt1, hd, hd2, hd4, hd5, h64, hx, hP, hP2, hF, hFl, hh, hw0, hw1, spHas]; rfl) ?_
            refine wp_drawsR (fun ts mm => ts = [(1, .fsl 3 (ms.map avCt)), (3, .fptr (.agg [.v (.int .i64 v), .v (.int .u16 (m : Nat))]) 0), (7, .ptr 0 0 0), (8, .ptr 1 0 0), (9, .ptr 2 0 0), (10, .v (.int .i64 i)), (11, .ptr 3 0 0), (12, .v (.int .i64 0))] ∧ mm = [.var [.v (.bool xa), .v (.int .u8 xi)], .var [.v (.bool ya), .v (.int .u8 yi)], .var [.v (.int .i64 v), .v (.int .u16 (m : Nat)), .v (.slice none 0 0)], .var [.v (.int .i64 v), .v (.int .u16 (m : Nat)), .fsl 3 (l'.map avCt)]]) ?_ ?_
            · intro W hW
              repeat' with_reducible first
                | refine wp_regionS (seg_eval (by simp -dsimp -implicitDefEqProofs [avCt, cCt, spCt1, hd, hd2, hd4, hd5, h64, hx, hP, hP2, hF, hFl, hh, hw0, hw1, spHas]; rfl) ?_)
                | refine wp_region (seg_eval (by simp -dsimp -implicitDefEqProofs [avCt, cCt, spCt1, hd, hd2, hd4, hd5, h64, hx, hP, hP2, hF, hFl, hh, hw0, hw1, spHas]; rfl) ?_)
                | refine wp_drawsS (seg_eval (by simp -dsimp -implicitDefEqProofs [avCt, cCt, spCt1, hd, hd2, hd4, hd5, h64, hx, hP, hP2, hF, hFl, hh, hw0, hw1, spHas]; rfl) ?_)
                | refine wp_draws (seg_eval (by simp -dsimp -implicitDefEqProofs [avCt, cCt, spCt1, hd, hd2, hd4, hd5, h64, hx, hP, hP2, hF, hFl, hh, hw0, hw1, spHas]; rfl) ?_)
                | refine seg_fin ?_
                | refine seg_pan ?_
                | refine seg_both ?_ ?_
                | refine seg_case (fun x h => ?_) (fun h => ?_)
                | refine seg_gate (fun h => ?_) (fun h => ?_)
                | refine seg_need ?_ ?_
                | refine wp_assoc ?_ | refine wp_skipS ?_ | refine wp_retS ?_ | refine wp_exitS ?_ | refine wp_dropS (wp_eqT (by simp -dsimp -implicitDefEqProofs; rfl) ?_) | refine wp_sealS (by simp -dsimp -implicitDefEqProofs; rfl) ?_ | refine wp_seal (by simp -dsimp -implicitDefEqProofs; rfl) ?_ | refine wp_pack_out ?_ | refine wp_blockS ?_ | refine wp_skip' ?_ | refine wp_ret' ?_ | refine wp_exit' ?_ | refine wp_drop (wp_eqT (by simp -dsimp -implicitDefEqProofs; rfl) ?_) | refine wp_block' ?_
                | refine wp_condVS (by simp -dsimp -implicitDefEqProofs; rfl) ?_
                | refine wp_condV (by simp -dsimp -implicitDefEqProofs; rfl) ?_
                | refine cond_t ?_ | refine cond_f ?_ | refine cond_v (fun h => ?_) (fun h => ?_)
                | refine post_then ?_ | refine post_thenE ?_ | refine post_thenP ?_ | refine post_blkP ?_ | refine post_thenR ?_ | refine post_blkN ?_ | refine post_blkE ?_ | refine post_blkF rfl ?_ | refine post_blkR ?_
                | refine seg_eval (by simp -dsimp -implicitDefEqProofs [avCt, cCt, spCt1, hd, hd2, hd4, hd5, h64, hx, hP, hP2, hF, hFl, hh, hw0, hw1, spHas]; rfl) ?_
              all_goals first
                | omega
                | exact hW _ _ ⟨[], [0, 1, 2, 3], rfl, rfl, by simp [avCt, cCt], by simp⟩
                | trace_state
            rintro ts mm ⟨rfl, rfl⟩
            repeat' with_reducible first
              | refine wp_regionS (seg_eval (by simp -dsimp -implicitDefEqProofs [avCt, cCt, spCt1, hd, hd2, hd4, hd5, h64, hx, hP, hP2, hF, hFl, hh, hw0, hw1, spHas]; rfl) ?_)
              | refine wp_region (seg_eval (by simp -dsimp -implicitDefEqProofs [avCt, cCt, spCt1, hd, hd2, hd4, hd5, h64, hx, hP, hP2, hF, hFl, hh, hw0, hw1, spHas]; rfl) ?_)
              | refine seg_fin ?_
              | refine seg_pan ?_
              | refine seg_both ?_ ?_
              | refine seg_case (fun x h => ?_) (fun h => ?_)
              | refine seg_gate (fun h => ?_) (fun h => ?_)
              | refine seg_need ?_ ?_
              | refine wp_assoc ?_ | refine wp_skipS ?_ | refine wp_retS ?_ | refine wp_exitS ?_ | refine wp_dropS (wp_eqT (by simp -dsimp -implicitDefEqProofs; rfl) ?_) | refine wp_sealS (by simp -dsimp -implicitDefEqProofs; rfl) ?_ | refine wp_seal (by simp -dsimp -implicitDefEqProofs; rfl) ?_ | refine wp_pack_out ?_ | refine wp_blockS ?_ | refine wp_skip' ?_ | refine wp_ret' ?_ | refine wp_exit' ?_ | refine wp_drop (wp_eqT (by simp -dsimp -implicitDefEqProofs; rfl) ?_) | refine wp_block' ?_
              | refine wp_condVS (by simp -dsimp -implicitDefEqProofs; rfl) ?_
              | refine wp_condV (by simp -dsimp -implicitDefEqProofs; rfl) ?_
              | refine cond_t ?_ | refine cond_f ?_ | refine cond_v (fun h => ?_) (fun h => ?_)
              | refine post_then ?_ | refine post_thenE ?_ | refine post_thenP ?_ | refine post_blkP ?_ | refine post_thenR ?_ | refine post_blkN ?_ | refine post_blkE ?_ | refine post_blkF rfl ?_ | refine post_blkR ?_
              | refine seg_eval (by simp -dsimp -implicitDefEqProofs [avCt, cCt, spCt1, hd, hd2, hd4, hd5, h64, hx, hP, hP2, hF, hFl, hh, hw0, hw1, spHas]; rfl) ?_
            refine wp_drawsRS (fun ts mm => ts = [(1, .fsl 3 (ms.map avCt)), (3, .fptr (.agg [.v (.int .i64 v), .v (.int .u16 (m : Nat))]) 0), (7, .ptr 0 0 0), (8, .ptr 1 0 0), (9, .ptr 2 0 0), (10, .v (.int .i64 i)), (11, .ptr 3 0 0), (14, .v (.int .i64 9))] ∧ mm = [.var [.v (.bool xa), .v (.int .u8 xi)], .var [.v (.bool ya), .v (.int .u8 yi)], .var [.v (.int .i64 v), .v (.int .u16 (m : Nat)), .v (.slice none 0 0)], .var [.v (.int .i64 v), .v (.int .u16 (m : Nat)), .fsl 3 (l'.map avCt)]]) ?_ ?_
            · intro W hW
              repeat' with_reducible first
                | refine wp_regionS (seg_eval (by simp -dsimp -implicitDefEqProofs [avCt, cCt, spCt1, hd, hd2, hd4, hd5, h64, hx, hP, hP2, hF, hFl, hh, hw0, hw1, spHas]; rfl) ?_)
                | refine wp_region (seg_eval (by simp -dsimp -implicitDefEqProofs [avCt, cCt, spCt1, hd, hd2, hd4, hd5, h64, hx, hP, hP2, hF, hFl, hh, hw0, hw1, spHas]; rfl) ?_)
                | refine wp_drawsS (seg_eval (by simp -dsimp -implicitDefEqProofs [avCt, cCt, spCt1, hd, hd2, hd4, hd5, h64, hx, hP, hP2, hF, hFl, hh, hw0, hw1, spHas]; rfl) ?_)
                | refine wp_draws (seg_eval (by simp -dsimp -implicitDefEqProofs [avCt, cCt, spCt1, hd, hd2, hd4, hd5, h64, hx, hP, hP2, hF, hFl, hh, hw0, hw1, spHas]; rfl) ?_)
                | refine seg_fin ?_
                | refine seg_pan ?_
                | refine seg_both ?_ ?_
                | refine seg_case (fun x h => ?_) (fun h => ?_)
                | refine seg_gate (fun h => ?_) (fun h => ?_)
                | refine seg_need ?_ ?_
                | refine wp_assoc ?_ | refine wp_skipS ?_ | refine wp_retS ?_ | refine wp_exitS ?_ | refine wp_dropS (wp_eqT (by simp -dsimp -implicitDefEqProofs; rfl) ?_) | refine wp_sealS (by simp -dsimp -implicitDefEqProofs; rfl) ?_ | refine wp_seal (by simp -dsimp -implicitDefEqProofs; rfl) ?_ | refine wp_pack_out ?_ | refine wp_blockS ?_ | refine wp_skip' ?_ | refine wp_ret' ?_ | refine wp_exit' ?_ | refine wp_drop (wp_eqT (by simp -dsimp -implicitDefEqProofs; rfl) ?_) | refine wp_block' ?_
                | refine wp_condVS (by simp -dsimp -implicitDefEqProofs; rfl) ?_
                | refine wp_condV (by simp -dsimp -implicitDefEqProofs; rfl) ?_
                | refine cond_t ?_ | refine cond_f ?_ | refine cond_v (fun h => ?_) (fun h => ?_)
                | refine post_then ?_ | refine post_thenE ?_ | refine post_thenP ?_ | refine post_blkP ?_ | refine post_thenR ?_ | refine post_blkN ?_ | refine post_blkE ?_ | refine post_blkF rfl ?_ | refine post_blkR ?_
                | refine seg_eval (by simp -dsimp -implicitDefEqProofs [avCt, cCt, spCt1, hd, hd2, hd4, hd5, h64, hx, hP, hP2, hF, hFl, hh, hw0, hw1, spHas]; rfl) ?_
              all_goals first
                | omega
                | exact hW _ _ ⟨[], [0, 1, 2, 3], rfl, rfl, by simp [avCt, cCt], by simp⟩
                | trace_state
            rintro ts mm ⟨rfl, rfl⟩
            repeat' with_reducible first
              | refine wp_regionS (seg_eval (by simp -dsimp -implicitDefEqProofs [avCt, cCt, spCt1, hd, hd2, hd4, hd5, h64, hx, hP, hP2, hF, hFl, hh, hw0, hw1, spHas]; rfl) ?_)
              | refine wp_region (seg_eval (by simp -dsimp -implicitDefEqProofs [avCt, cCt, spCt1, hd, hd2, hd4, hd5, h64, hx, hP, hP2, hF, hFl, hh, hw0, hw1, spHas]; rfl) ?_)
              | refine seg_fin ?_
              | refine seg_pan ?_
              | refine seg_both ?_ ?_
              | refine seg_case (fun x h => ?_) (fun h => ?_)
              | refine seg_gate (fun h => ?_) (fun h => ?_)
              | refine seg_need ?_ ?_
              | refine wp_assoc ?_ | refine wp_skipS ?_ | refine wp_retS ?_ | refine wp_exitS ?_ | refine wp_dropS (wp_eqT (by simp -dsimp -implicitDefEqProofs; rfl) ?_) | refine wp_sealS (by simp -dsimp -implicitDefEqProofs; rfl) ?_ | refine wp_seal (by simp -dsimp -implicitDefEqProofs; rfl) ?_ | refine wp_pack_out ?_ | refine wp_blockS ?_ | refine wp_skip' ?_ | refine wp_ret' ?_ | refine wp_exit' ?_ | refine wp_drop (wp_eqT (by simp -dsimp -implicitDefEqProofs; rfl) ?_) | refine wp_block' ?_
              | refine wp_condVS (by simp -dsimp -implicitDefEqProofs; rfl) ?_
              | refine wp_condV (by simp -dsimp -implicitDefEqProofs; rfl) ?_
              | refine cond_t ?_ | refine cond_f ?_ | refine cond_v (fun h => ?_) (fun h => ?_)
              | refine post_then ?_ | refine post_thenE ?_ | refine post_thenP ?_ | refine post_blkP ?_ | refine post_thenR ?_ | refine post_blkN ?_ | refine post_blkE ?_ | refine post_blkF rfl ?_ | refine post_blkR ?_
              | refine seg_eval (by simp -dsimp -implicitDefEqProofs [avCt, cCt, spCt1, hd, hd2, hd4, hd5, h64, hx, hP, hP2, hF, hFl, hh, hw0, hw1, spHas]; rfl) ?_
            refine wp_drawsRS (fun ts mm => ts = [(1, .fsl 3 (ms.map avCt)), (3, .fptr (.agg [.v (.int .i64 v), .v (.int .u16 (m : Nat))]) 0), (7, .ptr 0 0 0), (8, .ptr 1 0 0), (9, .ptr 2 0 0), (10, .v (.int .i64 i)), (11, .ptr 3 0 0), (74, .v (.bool false))] ∧ mm = [.var [.v (.bool xa), .v (.int .u8 xi)], .var [.v (.bool ya), .v (.int .u8 yi)], .var [.v (.int .i64 v), .v (.int .u16 (m : Nat)), .v (.slice none 0 0)], .var [.v (.int .i64 v), .v (.int .u16 (m : Nat)), .fsl 3 (l'.map avCt)]]) ?_ ?_
            · intro W hW
              repeat' with_reducible first
                | refine wp_regionS (seg_eval (by simp -dsimp -implicitDefEqProofs [avCt, cCt, spCt1, hd, hd2, hd4, hd5, h64, hx, hP, hP2, hF, hFl, hh, hw0, hw1, spHas]; rfl) ?_)
                | refine wp_region (seg_eval (by simp -dsimp -implicitDefEqProofs [avCt, cCt, spCt1, hd, hd2, hd4, hd5, h64, hx, hP, hP2, hF, hFl, hh, hw0, hw1, spHas]; rfl) ?_)
                | refine wp_drawsS (seg_eval (by simp -dsimp -implicitDefEqProofs [avCt, cCt, spCt1, hd, hd2, hd4, hd5, h64, hx, hP, hP2, hF, hFl, hh, hw0, hw1, spHas]; rfl) ?_)
                | refine wp_draws (seg_eval (by simp -dsimp -implicitDefEqProofs [avCt, cCt, spCt1, hd, hd2, hd4, hd5, h64, hx, hP, hP2, hF, hFl, hh, hw0, hw1, spHas]; rfl) ?_)
                | refine seg_fin ?_
                | refine seg_pan ?_
                | refine seg_both ?_ ?_
                | refine seg_case (fun x h => ?_) (fun h => ?_)
                | refine seg_gate (fun h => ?_) (fun h => ?_)
                | refine seg_need ?_ ?_
                | refine wp_assoc ?_ | refine wp_skipS ?_ | refine wp_retS ?_ | refine wp_exitS ?_ | refine wp_dropS (wp_eqT (by simp -dsimp -implicitDefEqProofs; rfl) ?_) | refine wp_sealS (by simp -dsimp -implicitDefEqProofs; rfl) ?_ | refine wp_seal (by simp -dsimp -implicitDefEqProofs; rfl) ?_ | refine wp_pack_out ?_ | refine wp_blockS ?_ | refine wp_skip' ?_ | refine wp_ret' ?_ | refine wp_exit' ?_ | refine wp_drop (wp_eqT (by simp -dsimp -implicitDefEqProofs; rfl) ?_) | refine wp_block' ?_
                | refine wp_condVS (by simp -dsimp -implicitDefEqProofs; rfl) ?_
                | refine wp_condV (by simp -dsimp -implicitDefEqProofs; rfl) ?_
                | refine cond_t ?_ | refine cond_f ?_ | refine cond_v (fun h => ?_) (fun h => ?_)
                | refine post_then ?_ | refine post_thenE ?_ | refine post_thenP ?_ | refine post_blkP ?_ | refine post_thenR ?_ | refine post_blkN ?_ | refine post_blkE ?_ | refine post_blkF rfl ?_ | refine post_blkR ?_
                | refine seg_eval (by simp -dsimp -implicitDefEqProofs [avCt, cCt, spCt1, hd, hd2, hd4, hd5, h64, hx, hP, hP2, hF, hFl, hh, hw0, hw1, spHas]; rfl) ?_
              all_goals first
                | omega
                | exact hW _ _ ⟨[], [0, 1, 2, 3], rfl, rfl, by simp [avCt, cCt], by simp⟩
                | trace_state
            rintro ts mm ⟨rfl, rfl⟩
            repeat' with_reducible first
              | refine wp_regionS (seg_eval (by simp -dsimp -implicitDefEqProofs [avCt, cCt, spCt1, hd, hd2, hd4, hd5, h64, hx, hP, hP2, hF, hFl, hh, hw0, hw1, spHas]; rfl) ?_)
              | refine wp_region (seg_eval (by simp -dsimp -implicitDefEqProofs [avCt, cCt, spCt1, hd, hd2, hd4, hd5, h64, hx, hP, hP2, hF, hFl, hh, hw0, hw1, spHas]; rfl) ?_)
              | refine wp_drawsS (seg_eval (by simp -dsimp -implicitDefEqProofs [avCt, cCt, spCt1, hd, hd2, hd4, hd5, h64, hx, hP, hP2, hF, hFl, hh, hw0, hw1, spHas]; rfl) ?_)
              | refine wp_draws (seg_eval (by simp -dsimp -implicitDefEqProofs [avCt, cCt, spCt1, hd, hd2, hd4, hd5, h64, hx, hP, hP2, hF, hFl, hh, hw0, hw1, spHas]; rfl) ?_)
              | refine seg_fin ?_
              | refine seg_pan ?_
              | refine seg_both ?_ ?_
              | refine seg_case (fun x h => ?_) (fun h => ?_)
              | refine seg_gate (fun h => ?_) (fun h => ?_)
              | refine seg_need ?_ ?_
              | refine wp_assoc ?_ | refine wp_skipS ?_ | refine wp_retS ?_ | refine wp_exitS ?_ | refine wp_dropS (wp_eqT (by simp -dsimp -implicitDefEqProofs; rfl) ?_) | refine wp_sealS (by simp -dsimp -implicitDefEqProofs; rfl) ?_ | refine wp_seal (by simp -dsimp -implicitDefEqProofs; rfl) ?_ | refine wp_pack_out ?_ | refine wp_blockS ?_ | refine wp_skip' ?_ | refine wp_ret' ?_ | refine wp_exit' ?_ | refine wp_drop (wp_eqT (by simp -dsimp -implicitDefEqProofs; rfl) ?_) | refine wp_block' ?_
              | refine wp_condVS (by simp -dsimp -implicitDefEqProofs; rfl) ?_
              | refine wp_condV (by simp -dsimp -implicitDefEqProofs; rfl) ?_
              | refine cond_t ?_ | refine cond_f ?_ | refine cond_v (fun h => ?_) (fun h => ?_)
              | refine post_then ?_ | refine post_thenE ?_ | refine post_thenP ?_ | refine post_blkP ?_ | refine post_thenR ?_ | refine post_blkN ?_ | refine post_blkE ?_ | refine post_blkF rfl ?_ | refine post_blkR ?_
              | refine seg_eval (by simp -dsimp -implicitDefEqProofs [avCt, cCt, spCt1, hd, hd2, hd4, hd5, h64, hx, hP, hP2, hF, hFl, hh, hw0, hw1, spHas]; rfl) ?_
            all_goals first
              | omega
              | exact ⟨j - 1, by omega, [], [0, 1, 2], rfl, rfl, i + 1, l', _, by omega, by omega, by omega, hpm, .inr rfl, by simp, by simp⟩
              | trace_state
          · skip
            repeat' with_reducible first
              | refine wp_regionS (seg_eval (by simp -dsimp -implicitDefEqProofs [avCt, cCt, spCt1, hd, hd2, hd4, hd5, h64, hx, hP, hP2, hF, hFl, hh, hw0, hw1, spHas]; rfl) ?_)
              | refine wp_region (seg_eval (by simp -dsimp -implicitDefEqProofs [avCt, cCt, spCt1, hd, hd2, hd4, hd5, h64, hx, hP, hP2, hF, hFl, hh, hw0, hw1, spHas]; rfl) ?_)
              | refine seg_fin ?_
              | refine seg_pan ?_
              | refine seg_both ?_ ?_
              | refine seg_case (fun x h => ?_) (fun h => ?_)
              | refine seg_gate (fun h => ?_) (fun h => ?_)
              | refine seg_need ?_ ?_
              | refine wp_assoc ?_ | refine wp_skipS ?_ | refine wp_retS ?_ | refine wp_exitS ?_ | refine wp_dropS (wp_eqT (by simp -dsimp -implicitDefEqProofs; rfl) ?_) | refine wp_sealS (by simp -dsimp -implicitDefEqProofs; rfl) ?_ | refine wp_seal (by simp -dsimp -implicitDefEqProofs; rfl) ?_ | refine wp_pack_out ?_ | refine wp_blockS ?_ | refine wp_skip' ?_ | refine wp_ret' ?_ | refine wp_exit' ?_ | refine wp_drop (wp_eqT (by simp -dsimp -implicitDefEqProofs; rfl) ?_) | refine wp_block' ?_
              | refine wp_condVS (by simp -dsimp -implicitDefEqProofs; rfl) ?_
              | refine wp_condV (by simp -dsimp -implicitDefEqProofs; rfl) ?_
              | refine cond_t ?_ | refine cond_f ?_ | refine cond_v (fun h => ?_) (fun h => ?_)
              | refine post_then ?_ | refine post_thenE ?_ | refine post_thenP ?_ | refine post_blkP ?_ | refine post_thenR ?_ | refine post_blkN ?_ | refine post_blkE ?_ | refine post_blkF rfl ?_ | refine post_blkR ?_
              | refine seg_eval (by simp -dsimp -implicitDefEqProofs [avCt, cCt, spCt1, hd, hd2, hd4, hd5, h64, hx, hP, hP2, hF, hFl, hh, hw0, hw1, spHas]; rfl) ?_
            refine wp_drawsR (fun ts mm => ts = [(1, .fsl 3 (ms.map avCt)), (3, .fptr (.agg [.v (.int .i64 v), .v (.int .u16 (m : Nat))]) 0), (7, .ptr 0 0 0), (8, .ptr 1 0 0), (9, .ptr 2 0 0), (10, .v (.int .i64 i)), (11, .ptr 3 0 0), (12, .v (.int .i64 0))] ∧ mm = [.var [.v (.bool xa), .v (.int .u8 xi)], .var [.v (.bool ya), .v (.int .u8 yi)], .var [.v (.int .i64 v), .v (.int .u16 (m : Nat)), .fsl 3 (l.map avCt)], .var [.v (.int .i64 v), .v (.int .u16 (m : Nat)), .fsl 3 (l'.map avCt)]]) ?_ ?_
            · intro W hW
              repeat' with_reducible first
                | refine wp_regionS (seg_eval (by simp -dsimp -implicitDefEqProofs [avCt, cCt, spCt1, hd, hd2, hd4, hd5, h64, hx, hP, hP2, hF, hFl, hh, hw0, hw1, spHas]; rfl) ?_)
                | refine wp_region (seg_eval (by simp -dsimp -implicitDefEqProofs [avCt, cCt, spCt1, hd, hd2, hd4, hd5, h64, hx, hP, hP2, hF, hFl, hh, hw0, hw1, spHas]; rfl) ?_)
                | refine wp_drawsS (seg_eval (by simp -dsimp -implicitDefEqProofs [avCt, cCt, spCt1, hd, hd2, hd4, hd5, h64, hx, hP, hP2, hF, hFl, hh, hw0, hw1, spHas]; rfl) ?_)
                | refine wp_draws (seg_eval (by simp -dsimp -implicitDefEqProofs [avCt, cCt, spCt1, hd, hd2, hd4, hd5, h64, hx, hP, hP2, hF, hFl, hh, hw0, hw1, spHas]; rfl) ?_)
                | refine seg_fin ?_
                | refine seg_pan ?_
                | refine seg_both ?_ ?_
                | refine seg_case (fun x h => ?_) (fun h => ?_)
                | refine seg_gate (fun h => ?_) (fun h => ?_)
                | refine seg_need ?_ ?_
                | refine wp_assoc ?_ | refine wp_skipS ?_ | refine wp_retS ?_ | refine wp_exitS ?_ | refine wp_dropS (wp_eqT (by simp -dsimp -implicitDefEqProofs; rfl) ?_) | refine wp_sealS (by simp -dsimp -implicitDefEqProofs; rfl) ?_ | refine wp_seal (by simp -dsimp -implicitDefEqProofs; rfl) ?_ | refine wp_pack_out ?_ | refine wp_blockS ?_ | refine wp_skip' ?_ | refine wp_ret' ?_ | refine wp_exit' ?_ | refine wp_drop (wp_eqT (by simp -dsimp -implicitDefEqProofs; rfl) ?_) | refine wp_block' ?_
                | refine wp_condVS (by simp -dsimp -implicitDefEqProofs; rfl) ?_
                | refine wp_condV (by simp -dsimp -implicitDefEqProofs; rfl) ?_
                | refine cond_t ?_ | refine cond_f ?_ | refine cond_v (fun h => ?_) (fun h => ?_)
                | refine post_then ?_ | refine post_thenE ?_ | refine post_thenP ?_ | refine post_blkP ?_ | refine post_thenR ?_ | refine post_blkN ?_ | refine post_blkE ?_ | refine post_blkF rfl ?_ | refine post_blkR ?_
                | refine seg_eval (by simp -dsimp -implicitDefEqProofs [avCt, cCt, spCt1, hd, hd2, hd4, hd5, h64, hx, hP, hP2, hF, hFl, hh, hw0, hw1, spHas]; rfl) ?_
              all_goals first
                | omega
                | exact hW _ _ ⟨[], [0, 1, 2, 3], rfl, rfl, by simp [avCt, cCt], by simp⟩
                | trace_state
            rintro ts mm ⟨rfl, rfl⟩
            repeat' with_reducible first
              | refine wp_regionS (seg_eval (by simp -dsimp -implicitDefEqProofs [avCt, cCt, spCt1, hd, hd2, hd4, hd5, h64, hx, hP, hP2, hF, hFl, hh, hw0, hw1, spHas]; rfl) ?_)
              | refine wp_region (seg_eval (by simp -dsimp -implicitDefEqProofs [avCt, cCt, spCt1, hd, hd2, hd4, hd5, h64, hx, hP, hP2, hF, hFl, hh, hw0, hw1, spHas]; rfl) ?_)
              | refine seg_fin ?_
              | refine seg_pan ?_
              | refine seg_both ?_ ?_
              | refine seg_case (fun x h => ?_) (fun h => ?_)
              | refine seg_gate (fun h => ?_) (fun h => ?_)
              | refine seg_need ?_ ?_
              | refine wp_assoc ?_ | refine wp_skipS ?_ | refine wp_retS ?_ | refine wp_exitS ?_ | refine wp_dropS (wp_eqT (by simp -dsimp -implicitDefEqProofs; rfl) ?_) | refine wp_sealS (by simp -dsimp -implicitDefEqProofs; rfl) ?_ | refine wp_seal (by simp -dsimp -implicitDefEqProofs; rfl) ?_ | refine wp_pack_out ?_ | refine wp_blockS ?_ | refine wp_skip' ?_ | refine wp_ret' ?_ | refine wp_exit' ?_ | refine wp_drop (wp_eqT (by simp -dsimp -implicitDefEqProofs; rfl) ?_) | refine wp_block' ?_
              | refine wp_condVS (by simp -dsimp -implicitDefEqProofs; rfl) ?_
              | refine wp_condV (by simp -dsimp -implicitDefEqProofs; rfl) ?_
              | refine cond_t ?_ | refine cond_f ?_ | refine cond_v (fun h => ?_) (fun h => ?_)
              | refine post_then ?_ | refine post_thenE ?_ | refine post_thenP ?_ | refine post_blkP ?_ | refine post_thenR ?_ | refine post_blkN ?_ | refine post_blkE ?_ | refine post_blkF rfl ?_ | refine post_blkR ?_
              | refine seg_eval (by simp -dsimp -implicitDefEqProofs [avCt, cCt, spCt1, hd, hd2, hd4, hd5, h64, hx, hP, hP2, hF, hFl, hh, hw0, hw1, spHas]; rfl) ?_
            refine wp_drawsRS (fun ts mm => ts = [(1, .fsl 3 (ms.map avCt)), (3, .fptr (.agg [.v (.int .i64 v), .v (.int .u16 (m : Nat))]) 0), (7, .ptr 0 0 0), (8, .ptr 1 0 0), (9, .ptr 2 0 0), (10, .v (.int .i64 i)), (11, .ptr 3 0 0), (14, .v (.int .i64 9))] ∧ mm = [.var [.v (.bool xa), .v (.int .u8 xi)], .var [.v (.bool ya), .v (.int .u8 yi)], .var [.v (.int .i64 v), .v (.int .u16 (m : Nat)), .fsl 3 (l.map avCt)], .var [.v (.int .i64 v), .v (.int .u16 (m : Nat)), .fsl 3 (l'.map avCt)]]) ?_ ?_
            · intro W hW
              repeat' with_reducible first
                | refine wp_regionS (seg_eval (by simp -dsimp -implicitDefEqProofs [avCt, cCt, spCt1, hd, hd2, hd4, hd5, h64, hx, hP, hP2, hF, hFl, hh, hw0, hw1, spHas]; rfl) ?_)
                | refine wp_region (seg_eval (by simp -dsimp -implicitDefEqProofs [avCt, cCt, spCt1, hd, hd2, hd4, hd5, h64, hx, hP, hP2, hF, hFl, hh, hw0, hw1, spHas]; rfl) ?_)
                | refine wp_drawsS (seg_eval (by simp -dsimp -implicitDefEqProofs [avCt, cCt, spCt1, hd, hd2, hd4, hd5, h64, hx, hP, hP2, hF, hFl, hh, hw0, hw1, spHas]; rfl) ?_)
                | refine wp_draws (seg_eval (by simp -dsimp -implicitDefEqProofs [avCt, cCt, spCt1, hd, hd2, hd4, hd5, h64, hx, hP, hP2, hF, hFl, hh, hw0, hw1, spHas]; rfl) ?_)
                | refine seg_fin ?_
                | refine seg_pan ?_
                | refine seg_both ?_ ?_
                | refine seg_case (fun x h => ?_) (fun h => ?_)
                | refine seg_gate (fun h => ?_) (fun h => ?_)
                | refine seg_need ?_ ?_
                | refine wp_assoc ?_ | refine wp_skipS ?_ | refine wp_retS ?_ | refine wp_exitS ?_ | refine wp_dropS (wp_eqT (by simp -dsimp -implicitDefEqProofs; rfl) ?_) | refine wp_sealS (by simp -dsimp -implicitDefEqProofs; rfl) ?_ | refine wp_seal (by simp -dsimp -implicitDefEqProofs; rfl) ?_ | refine wp_pack_out ?_ | refine wp_blockS ?_ | refine wp_skip' ?_ | refine wp_ret' ?_ | refine wp_exit' ?_ | refine wp_drop (wp_eqT (by simp -dsimp -implicitDefEqProofs; rfl) ?_) | refine wp_block' ?_
                | refine wp_condVS (by simp -dsimp -implicitDefEqProofs; rfl) ?_
                | refine wp_condV (by simp -dsimp -implicitDefEqProofs; rfl) ?_
                | refine cond_t ?_ | refine cond_f ?_ | refine cond_v (fun h => ?_) (fun h => ?_)
                | refine post_then ?_ | refine post_thenE ?_ | refine post_thenP ?_ | refine post_blkP ?_ | refine post_thenR ?_ | refine post_blkN ?_ | refine post_blkE ?_ | refine post_blkF rfl ?_ | refine post_blkR ?_
                | refine seg_eval (by simp -dsimp -implicitDefEqProofs [avCt, cCt, spCt1, hd, hd2, hd4, hd5, h64, hx, hP, hP2, hF, hFl, hh, hw0, hw1, spHas]; rfl) ?_
              all_goals first
                | omega
                | exact hW _ _ ⟨[], [0, 1, 2, 3], rfl, rfl, by simp [avCt, cCt], by simp⟩
                | trace_state
            rintro ts mm ⟨rfl, rfl⟩
            repeat' with_reducible first
              | refine wp_regionS (seg_eval (by simp -dsimp -implicitDefEqProofs [avCt, cCt, spCt1, hd, hd2, hd4, hd5, h64, hx, hP, hP2, hF, hFl, hh, hw0, hw1, spHas]; rfl) ?_)
              | refine wp_region (seg_eval (by simp -dsimp -implicitDefEqProofs [avCt, cCt, spCt1, hd, hd2, hd4, hd5, h64, hx, hP, hP2, hF, hFl, hh, hw0, hw1, spHas]; rfl) ?_)
              | refine seg_fin ?_
              | refine seg_pan ?_
              | refine seg_both ?_ ?_
              | refine seg_case (fun x h => ?_) (fun h => ?_)
              | refine seg_gate (fun h => ?_) (fun h => ?_)
              | refine seg_need ?_ ?_
              | refine wp_assoc ?_ | refine wp_skipS ?_ | refine wp_retS ?_ | refine wp_exitS ?_ | refine wp_dropS (wp_eqT (by simp -dsimp -implicitDefEqProofs; rfl) ?_) | refine wp_sealS (by simp -dsimp -implicitDefEqProofs; rfl) ?_ | refine wp_seal (by simp -dsimp -implicitDefEqProofs; rfl) ?_ | refine wp_pack_out ?_ | refine wp_blockS ?_ | refine wp_skip' ?_ | refine wp_ret' ?_ | refine wp_exit' ?_ | refine wp_drop (wp_eqT (by simp -dsimp -implicitDefEqProofs; rfl) ?_) | refine wp_block' ?_
              | refine wp_condVS (by simp -dsimp -implicitDefEqProofs; rfl) ?_
              | refine wp_condV (by simp -dsimp -implicitDefEqProofs; rfl) ?_
              | refine cond_t ?_ | refine cond_f ?_ | refine cond_v (fun h => ?_) (fun h => ?_)
              | refine post_then ?_ | refine post_thenE ?_ | refine post_thenP ?_ | refine post_blkP ?_ | refine post_thenR ?_ | refine post_blkN ?_ | refine post_blkE ?_ | refine post_blkF rfl ?_ | refine post_blkR ?_
              | refine seg_eval (by simp -dsimp -implicitDefEqProofs [avCt, cCt, spCt1, hd, hd2, hd4, hd5, h64, hx, hP, hP2, hF, hFl, hh, hw0, hw1, spHas]; rfl) ?_
            refine wp_drawsRS (fun ts mm => ts = [(1, .fsl 3 (ms.map avCt)), (3, .fptr (.agg [.v (.int .i64 v), .v (.int .u16 (m : Nat))]) 0), (7, .ptr 0 0 0), (8, .ptr 1 0 0), (9, .ptr 2 0 0), (10, .v (.int .i64 i)), (11, .ptr 3 0 0), (74, .v (.bool false))] ∧ mm = [.var [.v (.bool xa), .v (.int .u8 xi)], .var [.v (.bool ya), .v (.int .u8 yi)], .var [.v (.int .i64 v), .v (.int .u16 (m : Nat)), .fsl 3 (l.map avCt)], .var [.v (.int .i64 v), .v (.int .u16 (m : Nat)), .fsl 3 (l'.map avCt)]]) ?_ ?_
            · intro W hW
              repeat' with_reducible first
                | refine wp_regionS (seg_eval (by simp -dsimp -implicitDefEqProofs [avCt, cCt, spCt1, hd, hd2, hd4, hd5, h64, hx, hP, hP2, hF, hFl, hh, hw0, hw1, spHas]; rfl) ?_)
                | refine wp_region (seg_eval (by simp -dsimp -implicitDefEqProofs [avCt, cCt, spCt1, hd, hd2, hd4, hd5, h64, hx, hP, hP2, hF, hFl, hh, hw0, hw1, spHas]; rfl) ?_)
                | refine wp_drawsS (seg_eval (by simp -dsimp -implicitDefEqProofs [avCt, cCt, spCt1, hd, hd2, hd4, hd5, h64, hx, hP, hP2, hF, hFl, hh, hw0, hw1, spHas]; rfl) ?_)
                | refine wp_draws (seg_eval (by simp -dsimp -implicitDefEqProofs [avCt, cCt, spCt1, hd, hd2, hd4, hd5, h64, hx, hP, hP2, hF, hFl, hh, hw0, hw1, spHas]; rfl) ?_)
                | refine seg_fin ?_
                | refine seg_pan ?_
                | refine seg_both ?_ ?_
                | refine seg_case (fun x h => ?_) (fun h => ?_)
                | refine seg_gate (fun h => ?_) (fun h => ?_)
                | refine seg_need ?_ ?_
                | refine wp_assoc ?_ | refine wp_skipS ?_ | refine wp_retS ?_ | refine wp_exitS ?_ | refine wp_dropS (wp_eqT (by simp -dsimp -implicitDefEqProofs; rfl) ?_) | refine wp_sealS (by simp -dsimp -implicitDefEqProofs; rfl) ?_ | refine wp_seal (by simp -dsimp -implicitDefEqProofs; rfl) ?_ | refine wp_pack_out ?_ | refine wp_blockS ?_ | refine wp_skip' ?_ | refine wp_ret' ?_ | refine wp_exit' ?_ | refine wp_drop (wp_eqT (by simp -dsimp -implicitDefEqProofs; rfl) ?_) | refine wp_block' ?_
                | refine wp_condVS (by simp -dsimp -implicitDefEqProofs; rfl) ?_
                | refine wp_condV (by simp -dsimp -implicitDefEqProofs; rfl) ?_
                | refine cond_t ?_ | refine cond_f ?_ | refine cond_v (fun h => ?_) (fun h => ?_)
                | refine post_then ?_ | refine post_thenE ?_ | refine post_thenP ?_ | refine post_blkP ?_ | refine post_thenR ?_ | refine post_blkN ?_ | refine post_blkE ?_ | refine post_blkF rfl ?_ | refine post_blkR ?_
                | refine seg_eval (by simp -dsimp -implicitDefEqProofs [avCt, cCt, spCt1, hd, hd2, hd4, hd5, h64, hx, hP, hP2, hF, hFl, hh, hw0, hw1, spHas]; rfl) ?_
              all_goals first
                | omega
                | exact hW _ _ ⟨[], [0, 1, 2, 3], rfl, rfl, by simp [avCt, cCt], by simp⟩
                | trace_state
            rintro ts mm ⟨rfl, rfl⟩
            repeat' with_reducible first
              | refine wp_regionS (seg_eval (by simp -dsimp -implicitDefEqProofs [avCt, cCt, spCt1, hd, hd2, hd4, hd5, h64, hx, hP, hP2, hF, hFl, hh, hw0, hw1, spHas]; rfl) ?_)
              | refine wp_region (seg_eval (by simp -dsimp -implicitDefEqProofs [avCt, cCt, spCt1, hd, hd2, hd4, hd5, h64, hx, hP, hP2, hF, hFl, hh, hw0, hw1, spHas]; rfl) ?_)
              | refine wp_drawsS (seg_eval (by simp -dsimp -implicitDefEqProofs [avCt, cCt, spCt1, hd, hd2, hd4, hd5, h64, hx, hP, hP2, hF, hFl, hh, hw0, hw1, spHas]; rfl) ?_)
              | refine wp_draws (seg_eval (by simp -dsimp -implicitDefEqProofs [avCt, cCt, spCt1, hd, hd2, hd4, hd5, h64, hx, hP, hP2, hF, hFl, hh, hw0, hw1, spHas]; rfl) ?_)
              | refine seg_fin ?_
              | refine seg_pan ?_
              | refine seg_both ?_ ?_
              | refine seg_case (fun x h => ?_) (fun h => ?_)
              | refine seg_gate (fun h => ?_) (fun h => ?_)
              | refine seg_need ?_ ?_
              | refine wp_assoc ?_ | refine wp_skipS ?_ | refine wp_retS ?_ | refine wp_exitS ?_ | refine wp_dropS (wp_eqT (by simp -dsimp -implicitDefEqProofs; rfl) ?_) | refine wp_sealS (by simp -dsimp -implicitDefEqProofs; rfl) ?_ | refine wp_seal (by simp -dsimp -implicitDefEqProofs; rfl) ?_ | refine wp_pack_out ?_ | refine wp_blockS ?_ | refine wp_skip' ?_ | refine wp_ret' ?_ | refine wp_exit' ?_ | refine wp_drop (wp_eqT (by simp -dsimp -implicitDefEqProofs; rfl) ?_) | refine wp_block' ?_
              | refine wp_condVS (by simp -dsimp -implicitDefEqProofs; rfl) ?_
              | refine wp_condV (by simp -dsimp -implicitDefEqProofs; rfl) ?_
              | refine cond_t ?_ | refine cond_f ?_ | refine cond_v (fun h => ?_) (fun h => ?_)
              | refine post_then ?_ | refine post_thenE ?_ | refine post_thenP ?_ | refine post_blkP ?_ | refine post_thenR ?_ | refine post_blkN ?_ | refine post_blkE ?_ | refine post_blkF rfl ?_ | refine post_blkR ?_
              | refine seg_eval (by simp -dsimp -implicitDefEqProofs [avCt, cCt, spCt1, hd, hd2, hd4, hd5, h64, hx, hP, hP2, hF, hFl, hh, hw0, hw1, spHas]; rfl) ?_
            all_goals first
              | omega
              | exact ⟨j - 1, by omega, [], [0, 1, 2], rfl, rfl, i + 1, l', _, by omega, by omega, by omega, hpm, .inr rfl, by simp, by simp⟩
              | trace_state
        · have hne : ((putC v m l ⟨w, a, d⟩).2 == (0 : Int)) = false := by simp [hz]
          rw [putC_not hz] at hP
          generalize (putC v m l ⟨w, a, d⟩).2 = e at *
          rcases hbb with ⟨hl0, rfl⟩ | rfl
          · rw [hl0] at hP
            simp only [List.map_nil] at hP
            repeat' with_reducible first
              | refine wp_regionS (seg_eval (by simp -dsimp -implicitDefEqProofs [avCt, cCt, spCt1, hd, hd2, hd4, hd5, h64, hx, hP, hne]; rfl) ?_)
              | refine wp_region (seg_eval (by simp -dsimp -implicitDefEqProofs [avCt, cCt, spCt1, hd, hd2, hd4, hd5, h64, hx, hP, hne]; rfl) ?_)
              | refine seg_fin ?_
              | refine seg_pan ?_
              | refine seg_both ?_ ?_
              | refine seg_case (fun x h => ?_) (fun h => ?_)
              | refine seg_gate (fun h => ?_) (fun h => ?_)
              | refine seg_need ?_ ?_
              | refine wp_assoc ?_ | refine wp_skipS ?_ | refine wp_retS ?_ | refine wp_exitS ?_ | refine wp_dropS (wp_eqT (by simp -dsimp -implicitDefEqProofs; rfl) ?_) | refine wp_sealS (by simp -dsimp -implicitDefEqProofs; rfl) ?_ | refine wp_seal (by simp -dsimp -implicitDefEqProofs; rfl) ?_ | refine wp_pack_out ?_ | refine wp_blockS ?_ | refine wp_skip' ?_ | refine wp_ret' ?_ | refine wp_exit' ?_ | refine wp_drop (wp_eqT (by simp -dsimp -implicitDefEqProofs; rfl) ?_) | refine wp_block' ?_
              | refine wp_condVS (by simp -dsimp -implicitDefEqProofs; rfl) ?_
              | refine wp_condV (by simp -dsimp -implicitDefEqProofs; rfl) ?_
              | refine cond_t ?_ | refine cond_f ?_ | refine cond_v (fun h => ?_) (fun h => ?_)
              | refine post_then ?_ | refine post_thenE ?_ | refine post_thenP ?_ | refine post_blkP ?_ | refine post_thenR ?_ | refine post_blkN ?_ | refine post_blkE ?_ | refine post_blkF rfl ?_ | refine post_blkR ?_
              | refine seg_eval (by simp -dsimp -implicitDefEqProofs [avCt, cCt, spCt1, hd, hd2, hd4, hd5, h64, hx, hP, hne]; rfl) ?_
            refine wp_drawsR (fun ts mm => ts = [(1, .fsl 3 (ms.map avCt)), (3, .fptr (.agg [.v (.int .i64 v), .v (.int .u16 (m : Nat))]) 0), (7, .ptr 0 0 0), (8, .ptr 1 0 0), (9, .ptr 2 0 0), (10, .v (.int .i64 i)), (11, .ptr 3 0 0), (12, .v (.int .i64 e))] ∧ mm = [.var [.v (.bool xa), .v (.int .u8 xi)], .var [.v (.bool ya), .v (.int .u8 yi)], .var [.v (.int .i64 v), .v (.int .u16 (m : Nat)), .v (.slice none 0 0)], .var [.v (.int .i64 v), .v (.int .u16 (m : Nat)), .fsl 3 []]]) ?_ ?_
            · intro W hW
              repeat' with_reducible first
                | refine wp_regionS (seg_eval (by simp -dsimp -implicitDefEqProofs [avCt, cCt, spCt1, hd, hd2, hd4, hd5, h64, hx, hP, hne]; rfl) ?_)
                | refine wp_region (seg_eval (by simp -dsimp -implicitDefEqProofs [avCt, cCt, spCt1, hd, hd2, hd4, hd5, h64, hx, hP, hne]; rfl) ?_)
                | refine wp_drawsS (seg_eval (by simp -dsimp -implicitDefEqProofs [avCt, cCt, spCt1, hd, hd2, hd4, hd5, h64, hx, hP, hne]; rfl) ?_)
                | refine wp_draws (seg_eval (by simp -dsimp -implicitDefEqProofs [avCt, cCt, spCt1, hd, hd2, hd4, hd5, h64, hx, hP, hne]; rfl) ?_)
                | refine seg_fin ?_
                | refine seg_pan ?_
                | refine seg_both ?_ ?_
                | refine seg_case (fun x h => ?_) (fun h => ?_)
                | refine seg_gate (fun h => ?_) (fun h => ?_)
                | refine seg_need ?_ ?_
                | refine wp_assoc ?_ | refine wp_skipS ?_ | refine wp_retS ?_ | refine wp_exitS ?_ | refine wp_dropS (wp_eqT (by simp -dsimp -implicitDefEqProofs; rfl) ?_) | refine wp_sealS (by simp -dsimp -implicitDefEqProofs; rfl) ?_ | refine wp_seal (by simp -dsimp -implicitDefEqProofs; rfl) ?_ | refine wp_pack_out ?_ | refine wp_blockS ?_ | refine wp_skip' ?_ | refine wp_ret' ?_ | refine wp_exit' ?_ | refine wp_drop (wp_eqT (by simp -dsimp -implicitDefEqProofs; rfl) ?_) | refine wp_block' ?_
                | refine wp_condVS (by simp -dsimp -implicitDefEqProofs; rfl) ?_
                | refine wp_condV (by simp -dsimp -implicitDefEqProofs; rfl) ?_
                | refine cond_t ?_ | refine cond_f ?_ | refine cond_v (fun h => ?_) (fun h => ?_)
                | refine post_then ?_ | refine post_thenE ?_ | refine post_thenP ?_ | refine post_blkP ?_ | refine post_thenR ?_ | refine post_blkN ?_ | refine post_blkE ?_ | refine post_blkF rfl ?_ | refine post_blkR ?_
                | refine seg_eval (by simp -dsimp -implicitDefEqProofs [avCt, cCt, spCt1, hd, hd2, hd4, hd5, h64, hx, hP, hne]; rfl) ?_
              all_goals first
                | omega
                | exact hW _ _ ⟨[], [0, 1, 2, 3], rfl, rfl, by simp [avCt, cCt], by simp⟩
                | trace_state
            rintro ts mm ⟨rfl, rfl⟩
            repeat' with_reducible first
              | refine wp_regionS (seg_eval (by simp -dsimp -implicitDefEqProofs [avCt, cCt, spCt1, hd, hd2, hd4, hd5, h64, hx, hP, hne]; rfl) ?_)
              | refine wp_region (seg_eval (by simp -dsimp -implicitDefEqProofs [avCt, cCt, spCt1, hd, hd2, hd4, hd5, h64, hx, hP, hne]; rfl) ?_)
              | refine wp_drawsS (seg_eval (by simp -dsimp -implicitDefEqProofs [avCt, cCt, spCt1, hd, hd2, hd4, hd5, h64, hx, hP, hne]; rfl) ?_)
              | refine wp_draws (seg_eval (by simp -dsimp -implicitDefEqProofs [avCt, cCt, spCt1, hd, hd2, hd4, hd5, h64, hx, hP, hne]; rfl) ?_)
              | refine seg_fin ?_
              | refine seg_pan ?_
              | refine seg_both ?_ ?_
              | refine seg_case (fun x h => ?_) (fun h => ?_)
              | refine seg_gate (fun h => ?_) (fun h => ?_)
              | refine seg_need ?_ ?_
              | refine wp_assoc ?_ | refine wp_skipS ?_ | refine wp_retS ?_ | refine wp_exitS ?_ | refine wp_dropS (wp_eqT (by simp -dsimp -implicitDefEqProofs; rfl) ?_) | refine wp_sealS (by simp -dsimp -implicitDefEqProofs; rfl) ?_ | refine wp_seal (by simp -dsimp -implicitDefEqProofs; rfl) ?_ | refine wp_pack_out ?_ | refine wp_blockS ?_ | refine wp_skip' ?_ | refine wp_ret' ?_ | refine wp_exit' ?_ | refine wp_drop (wp_eqT (by simp -dsimp -implicitDefEqProofs; rfl) ?_) | refine wp_block' ?_
              | refine wp_condVS (by simp -dsimp -implicitDefEqProofs; rfl) ?_
              | refine wp_condV (by simp -dsimp -implicitDefEqProofs; rfl) ?_
              | refine cond_t ?_ | refine cond_f ?_ | refine cond_v (fun h => ?_) (fun h => ?_)
              | refine post_then ?_ | refine post_thenE ?_ | refine post_thenP ?_ | refine post_blkP ?_ | refine post_thenR ?_ | refine post_blkN ?_ | refine post_blkE ?_ | refine post_blkF rfl ?_ | refine post_blkR ?_
              | refine seg_eval (by simp -dsimp -implicitDefEqProofs [avCt, cCt, spCt1, hd, hd2, hd4, hd5, h64, hx, hP, hne]; rfl) ?_
            all_goals first
              | omega
              | exact ⟨j - 1, by omega, [], [0, 1, 2], rfl, rfl, i + 1, l, _, by omega, by omega, by omega, hok, .inr rfl, by simp, by simp [hl0]⟩
              | trace_state
          · skip
            repeat' with_reducible first
              | refine wp_regionS (seg_eval (by simp -dsimp -implicitDefEqProofs [avCt, cCt, spCt1, hd, hd2, hd4, hd5, h64, hx, hP, hne]; rfl) ?_)
              | refine wp_region (seg_eval (by simp -dsimp -implicitDefEqProofs [avCt, cCt, spCt1, hd, hd2, hd4, hd5, h64, hx, hP, hne]; rfl) ?_)
              | refine seg_fin ?_
              | refine seg_pan ?_
              | refine seg_both ?_ ?_
              | refine seg_case (fun x h => ?_) (fun h => ?_)
              | refine seg_gate (fun h => ?_) (fun h => ?_)
              | refine seg_need ?_ ?_
              | refine wp_assoc ?_ | refine wp_skipS ?_ | refine wp_retS ?_ | refine wp_exitS ?_ | refine wp_dropS (wp_eqT (by simp -dsimp -implicitDefEqProofs; rfl) ?_) | refine wp_sealS (by simp -dsimp -implicitDefEqProofs; rfl) ?_ | refine wp_seal (by simp -dsimp -implicitDefEqProofs; rfl) ?_ | refine wp_pack_out ?_ | refine wp_blockS ?_ | refine wp_skip' ?_ | refine wp_ret' ?_ | refine wp_exit' ?_ | refine wp_drop (wp_eqT (by simp -dsimp -implicitDefEqProofs; rfl) ?_) | refine wp_block' ?_
              | refine wp_condVS (by simp -dsimp -implicitDefEqProofs; rfl) ?_
              | refine wp_condV (by simp -dsimp -implicitDefEqProofs; rfl) ?_
              | refine cond_t ?_ | refine cond_f ?_ | refine cond_v (fun h => ?_) (fun h => ?_)
              | refine post_then ?_ | refine post_thenE ?_ | refine post_thenP ?_ | refine post_blkP ?_ | refine post_thenR ?_ | refine post_blkN ?_ | refine post_blkE ?_ | refine post_blkF rfl ?_ | refine post_blkR ?_
              | refine seg_eval (by simp -dsimp -implicitDefEqProofs [avCt, cCt, spCt1, hd, hd2, hd4, hd5, h64, hx, hP, hne]; rfl) ?_
            refine wp_drawsR (fun ts mm => ts = [(1, .fsl 3 (ms.map avCt)), (3, .fptr (.agg [.v (.int .i64 v), .v (.int .u16 (m : Nat))]) 0), (7, .ptr 0 0 0), (8, .ptr 1 0 0), (9, .ptr 2 0 0), (10, .v (.int .i64 i)), (11, .ptr 3 0 0), (12, .v (.int .i64 e))] ∧ mm = [.var [.v (.bool xa), .v (.int .u8 xi)], .var [.v (.bool ya), .v (.int .u8 yi)], .var [.v (.int .i64 v), .v (.int .u16 (m : Nat)), .fsl 3 (l.map avCt)], .var [.v (.int .i64 v), .v (.int .u16 (m : Nat)), .fsl 3 (l.map avCt)]]) ?_ ?_
            · intro W hW
              repeat' with_reducible first
                | refine wp_regionS (seg_eval (by simp -dsimp -implicitDefEqProofs [avCt, cCt, spCt1, hd, hd2, hd4, hd5, h64, hx, hP, hne]; rfl) ?_)
                | refine wp_region (seg_eval (by simp -dsimp -implicitDefEqProofs [avCt, cCt, spCt1, hd, hd2, hd4, hd5, h64, hx, hP, hne]; rfl) ?_)
                | refine wp_drawsS (seg_eval (by simp -dsimp -implicitDefEqProofs [avCt, cCt, spCt1, hd, hd2, hd4, hd5, h64, hx, hP, hne]; rfl) ?_)
                | refine wp_draws (seg_eval (by simp -dsimp -implicitDefEqProofs [avCt, cCt, spCt1, hd, hd2, hd4, hd5, h64, hx, hP, hne]; rfl) ?_)
                | refine seg_fin ?_
                | refine seg_pan ?_
                | refine seg_both ?_ ?_
                | refine seg_case (fun x h => ?_) (fun h => ?_)
                | refine seg_gate (fun h => ?_) (fun h => ?_)
                | refine seg_need ?_ ?_
                | refine wp_assoc ?_ | refine wp_skipS ?_ | refine wp_retS ?_ | refine wp_exitS ?_ | refine wp_dropS (wp_eqT (by simp -dsimp -implicitDefEqProofs; rfl) ?_) | refine wp_sealS (by simp -dsimp -implicitDefEqProofs; rfl) ?_ | refine wp_seal (by simp -dsimp -implicitDefEqProofs; rfl) ?_ | refine wp_pack_out ?_ | refine wp_blockS ?_ | refine wp_skip' ?_ | refine wp_ret' ?_ | refine wp_exit' ?_ | refine wp_drop (wp_eqT (by simp -dsimp -implicitDefEqProofs; rfl) ?_) | refine wp_block' ?_
                | refine wp_condVS (by simp -dsimp -implicitDefEqProofs; rfl) ?_
                | refine wp_condV (by simp -dsimp -implicitDefEqProofs; rfl) ?_
                | refine cond_t ?_ | refine cond_f ?_ | refine cond_v (fun h => ?_) (fun h => ?_)
                | refine post_then ?_ | refine post_thenE ?_ | refine post_thenP ?_ | refine post_blkP ?_ | refine post_thenR ?_ | refine post_blkN ?_ | refine post_blkE ?_ | refine post_blkF rfl ?_ | refine post_blkR ?_
                | refine seg_eval (by simp -dsimp -implicitDefEqProofs [avCt, cCt, spCt1, hd, hd2, hd4, hd5, h64, hx, hP, hne]; rfl) ?_
              all_goals first
                | omega
                | exact hW _ _ ⟨[], [0, 1, 2, 3], rfl, rfl, by simp [avCt, cCt], by simp⟩
                | trace_state
            rintro ts mm ⟨rfl, rfl⟩
            repeat' with_reducible first
              | refine wp_regionS (seg_eval (by simp -dsimp -implicitDefEqProofs [avCt, cCt, spCt1, hd, hd2, hd4, hd5, h64, hx, hP, hne]; rfl) ?_)
              | refine wp_region (seg_eval (by simp -dsimp -implicitDefEqProofs [avCt, cCt, spCt1, hd, hd2, hd4, hd5, h64, hx, hP, hne]; rfl) ?_)
              | refine wp_drawsS (seg_eval (by simp -dsimp -implicitDefEqProofs [avCt, cCt, spCt1, hd, hd2, hd4, hd5, h64, hx, hP, hne]; rfl) ?_)
              | refine wp_draws (seg_eval (by simp -dsimp -implicitDefEqProofs [avCt, cCt, spCt1, hd, hd2, hd4, hd5, h64, hx, hP, hne]; rfl) ?_)
              | refine seg_fin ?_
              | refine seg_pan ?_
              | refine seg_both ?_ ?_
              | refine seg_case (fun x h => ?_) (fun h => ?_)
              | refine seg_gate (fun h => ?_) (fun h => ?_)
              | refine seg_need ?_ ?_
              | refine wp_assoc ?_ | refine wp_skipS ?_ | refine wp_retS ?_ | refine wp_exitS ?_ | refine wp_dropS (wp_eqT (by simp -dsimp -implicitDefEqProofs; rfl) ?_) | refine wp_sealS (by simp -dsimp -implicitDefEqProofs; rfl) ?_ | refine wp_seal (by simp -dsimp -implicitDefEqProofs; rfl) ?_ | refine wp_pack_out ?_ | refine wp_blockS ?_ | refine wp_skip' ?_ | refine wp_ret' ?_ | refine wp_exit' ?_ | refine wp_drop (wp_eqT (by simp -dsimp -implicitDefEqProofs; rfl) ?_) | refine wp_block' ?_
              | refine wp_condVS (by simp -dsimp -implicitDefEqProofs; rfl) ?_
              | refine wp_condV (by simp -dsimp -implicitDefEqProofs; rfl) ?_
              | refine cond_t ?_ | refine cond_f ?_ | refine cond_v (fun h => ?_) (fun h => ?_)
              | refine post_then ?_ | refine post_thenE ?_ | refine post_thenP ?_ | refine post_blkP ?_ | refine post_thenR ?_ | refine post_blkN ?_ | refine post_blkE ?_ | refine post_blkF rfl ?_ | refine post_blkR ?_
              | refine seg_eval (by simp -dsimp -implicitDefEqProofs [avCt, cCt, spCt1, hd, hd2, hd4, hd5, h64, hx, hP, hne]; rfl) ?_
            all_goals first
              | omega
              | exact ⟨j - 1, by omega, [], [0, 1, 2], rfl, rfl, i + 1, l, _, by omega, by omega, by omega, hok, .inr rfl, by simp, by simp⟩
              | trace_state
      · have hd4 : decide ((i : Int) < 60) = false := by rw [decide_eq_false_iff_not]; omega
        have hd5 : decide (i < 60) = false := by simp; omega
        repeat' with_reducible first
          | refine wp_regionS (seg_eval (by simp -dsimp -implicitDefEqProofs [hd, hd2, hd4, hd5]; rfl) ?_)
          | refine wp_region (seg_eval (by simp -dsimp -implicitDefEqProofs [hd, hd2, hd4, hd5]; rfl) ?_)
          | refine wp_drawsS (seg_eval (by simp -dsimp -implicitDefEqProofs [hd, hd2, hd4, hd5]; rfl) ?_)
          | refine wp_draws (seg_eval (by simp -dsimp -implicitDefEqProofs [hd, hd2, hd4, hd5]; rfl) ?_)
          | refine seg_fin ?_
          | refine seg_pan ?_
          | refine seg_both ?_ ?_
          | refine seg_case (fun x h => ?_) (fun h => ?_)
          | refine seg_gate (fun h => ?_) (fun h => ?_)
          | refine seg_need ?_ ?_
          | refine wp_assoc ?_ | refine wp_skipS ?_ | refine wp_retS ?_ | refine wp_exitS ?_ | refine wp_dropS (wp_eqT (by simp -dsimp -implicitDefEqProofs; rfl) ?_) | refine wp_sealS (by simp -dsimp -implicitDefEqProofs; rfl) ?_ | refine wp_seal (by simp -dsimp -implicitDefEqProofs; rfl) ?_ | refine wp_pack_out ?_ | refine wp_blockS ?_ | refine wp_skip' ?_ | refine wp_ret' ?_ | refine wp_exit' ?_ | refine wp_drop (wp_eqT (by simp -dsimp -implicitDefEqProofs; rfl) ?_) | refine wp_block' ?_
          | refine wp_condVS (by simp -dsimp -implicitDefEqProofs; rfl) ?_
          | refine wp_condV (by simp -dsimp -implicitDefEqProofs; rfl) ?_
          | refine cond_t ?_ | refine cond_f ?_ | refine cond_v (fun h => ?_) (fun h => ?_)
          | refine post_then ?_ | refine post_thenE ?_ | refine post_thenP ?_ | refine post_blkP ?_ | refine post_thenR ?_ | refine post_blkN ?_ | refine post_blkE ?_ | refine post_blkF rfl ?_ | refine post_blkR ?_
          | refine seg_eval (by simp -dsimp -implicitDefEqProofs [hd, hd2, hd4, hd5]; rfl) ?_
        exact hW0 _ _ ⟨l, bb, by omega, hok, hbb, by simp, by simp⟩
    · have hd : decide ((i : Int) < (ms.length : Int)) = false := by rw [decide_eq_false_iff_not]; omega
      have hd2 : decide (i < ms.length) = false := by simp [hlt]
      repeat' with_reducible first
        | refine wp_regionS (seg_eval (by simp -dsimp -implicitDefEqProofs [hd, hd2]; rfl) ?_)
        | refine wp_region (seg_eval (by simp -dsimp -implicitDefEqProofs [hd, hd2]; rfl) ?_)
        | refine wp_drawsS (seg_eval (by simp -dsimp -implicitDefEqProofs [hd, hd2]; rfl) ?_)
        | refine wp_draws (seg_eval (by simp -dsimp -implicitDefEqProofs [hd, hd2]; rfl) ?_)
        | refine seg_fin ?_
        | refine seg_pan ?_
        | refine seg_both ?_ ?_
        | refine seg_case (fun x h => ?_) (fun h => ?_)
        | refine seg_gate (fun h => ?_) (fun h => ?_)
        | refine seg_need ?_ ?_
        | refine wp_assoc ?_ | refine wp_skipS ?_ | refine wp_retS ?_ | refine wp_exitS ?_ | refine wp_dropS (wp_eqT (by simp -dsimp -implicitDefEqProofs; rfl) ?_) | refine wp_sealS (by simp -dsimp -implicitDefEqProofs; rfl) ?_ | refine wp_seal (by simp -dsimp -implicitDefEqProofs; rfl) ?_ | refine wp_pack_out ?_ | refine wp_blockS ?_ | refine wp_skip' ?_ | refine wp_ret' ?_ | refine wp_exit' ?_ | refine wp_drop (wp_eqT (by simp -dsimp -implicitDefEqProofs; rfl) ?_) | refine wp_block' ?_
        | refine wp_condVS (by simp -dsimp -implicitDefEqProofs; rfl) ?_
        | refine wp_condV (by simp -dsimp -implicitDefEqProofs; rfl) ?_
        | refine cond_t ?_ | refine cond_f ?_ | refine cond_v (fun h => ?_) (fun h => ?_)
        | refine post_then ?_ | refine post_thenE ?_ | refine post_thenP ?_ | refine post_blkP ?_ | refine post_thenR ?_ | refine post_blkN ?_ | refine post_blkE ?_ | refine post_blkF rfl ?_ | refine post_blkR ?_
        | refine seg_eval (by simp -dsimp -implicitDefEqProofs [hd, hd2]; rfl) ?_
      exact hW0 _ _ ⟨l, bb, by omega, hok, hbb, by simp, by simp⟩
  · rintro ts mm ⟨l, bb, hl60, hok, hbb, rfl, rfl⟩
    have hF := forCAt v m l xa xi
    rw [if_pos ⟨hm, by omega, hok⟩] at hF
    have hG := forCAt v m l ya yi
    rw [if_pos ⟨hm, by omega, hok⟩] at hG
    have ho := or_nat _ _ (forC_lt v m l xa xi) (forC_lt v m l ya yi)
    have hn := andnot_zero (A := forC v m l xa xi ||| forC v m l ya yi) (M := m) fun i h => or_sub i h
    have ha := and_nat _ _ (forC_lt v m l xa xi) (forC_lt v m l ya yi)
    have hap := fun h => for_apart (v := v) (m := m) hok (a := xa) (b := ya) (d := xi) (e := yi) h
    generalize forC v m l xa xi = f at *
    generalize forC v m l ya yi = g at *
    cases he : (xa == ya && xi == yi)
    · have h0 := hap (by simpa using he)
      rw [h0] at ha
      rcases hbb with ⟨hl0, rfl⟩ | rfl
      · rw [hl0] at hF hG
        simp only [List.map_nil] at hF hG
        repeat' with_reducible first
          | refine wp_regionS (seg_eval (by simp -dsimp -implicitDefEqProofs [hF, hG]; rfl) ?_)
          | refine wp_region (seg_eval (by simp -dsimp -implicitDefEqProofs [hF, hG]; rfl) ?_)
          | refine seg_fin ?_
          | refine seg_pan ?_
          | refine seg_both ?_ ?_
          | refine seg_case (fun x h => ?_) (fun h => ?_)
          | refine seg_gate (fun h => ?_) (fun h => ?_)
          | refine seg_need ?_ ?_
          | refine wp_assoc ?_ | refine wp_skipS ?_ | refine wp_retS ?_ | refine wp_exitS ?_ | refine wp_dropS (wp_eqT (by simp -dsimp -implicitDefEqProofs; rfl) ?_) | refine wp_sealS (by simp -dsimp -implicitDefEqProofs; rfl) ?_ | refine wp_seal (by simp -dsimp -implicitDefEqProofs; rfl) ?_ | refine wp_pack_out ?_ | refine wp_blockS ?_ | refine wp_skip' ?_ | refine wp_ret' ?_ | refine wp_exit' ?_ | refine wp_drop (wp_eqT (by simp -dsimp -implicitDefEqProofs; rfl) ?_) | refine wp_block' ?_
          | refine wp_condVS (by simp -dsimp -implicitDefEqProofs; rfl) ?_
          | refine wp_condV (by simp -dsimp -implicitDefEqProofs; rfl) ?_
          | refine cond_t ?_ | refine cond_f ?_ | refine cond_v (fun h => ?_) (fun h => ?_)
          | refine post_then ?_ | refine post_thenE ?_ | refine post_thenP ?_ | refine post_blkP ?_ | refine post_thenR ?_ | refine post_blkN ?_ | refine post_blkE ?_ | refine post_blkF rfl ?_ | refine post_blkR ?_
          | refine seg_eval (by simp -dsimp -implicitDefEqProofs [hF, hG]; rfl) ?_
        refine wp_drawsR (fun ts mm => ts = [(3, .fptr (.agg [.v (.int .i64 v), .v (.int .u16 (m : Nat))]) 0), (7, .ptr 0 0 0), (8, .ptr 1 0 0), (15, .v (.int .u16 (f : Nat))), (16, .v (.int .u16 (g : Nat)))] ∧ mm = [.var [.v (.bool xa), .v (.int .u8 xi)], .var [.v (.bool ya), .v (.int .u8 yi)]]) ?_ ?_
        · intro W hW
          repeat' with_reducible first
            | refine wp_regionS (seg_eval (by simp -dsimp -implicitDefEqProofs [hF, hG]; rfl) ?_)
            | refine wp_region (seg_eval (by simp -dsimp -implicitDefEqProofs [hF, hG]; rfl) ?_)
            | refine wp_drawsS (seg_eval (by simp -dsimp -implicitDefEqProofs [hF, hG]; rfl) ?_)
            | refine wp_draws (seg_eval (by simp -dsimp -implicitDefEqProofs [hF, hG]; rfl) ?_)
            | refine seg_fin ?_
            | refine seg_pan ?_
            | refine seg_both ?_ ?_
            | refine seg_case (fun x h => ?_) (fun h => ?_)
            | refine seg_gate (fun h => ?_) (fun h => ?_)
            | refine seg_need ?_ ?_
            | refine wp_assoc ?_ | refine wp_skipS ?_ | refine wp_retS ?_ | refine wp_exitS ?_ | refine wp_dropS (wp_eqT (by simp -dsimp -implicitDefEqProofs; rfl) ?_) | refine wp_sealS (by simp -dsimp -implicitDefEqProofs; rfl) ?_ | refine wp_seal (by simp -dsimp -implicitDefEqProofs; rfl) ?_ | refine wp_pack_out ?_ | refine wp_blockS ?_ | refine wp_skip' ?_ | refine wp_ret' ?_ | refine wp_exit' ?_ | refine wp_drop (wp_eqT (by simp -dsimp -implicitDefEqProofs; rfl) ?_) | refine wp_block' ?_
            | refine wp_condVS (by simp -dsimp -implicitDefEqProofs; rfl) ?_
            | refine wp_condV (by simp -dsimp -implicitDefEqProofs; rfl) ?_
            | refine cond_t ?_ | refine cond_f ?_ | refine cond_v (fun h => ?_) (fun h => ?_)
            | refine post_then ?_ | refine post_thenE ?_ | refine post_thenP ?_ | refine post_blkP ?_ | refine post_thenR ?_ | refine post_blkN ?_ | refine post_blkE ?_ | refine post_blkF rfl ?_ | refine post_blkR ?_
            | refine seg_eval (by simp -dsimp -implicitDefEqProofs [hF, hG]; rfl) ?_
          all_goals first
            | omega
            | exact hW _ _ ⟨[], [0, 1], rfl, rfl, by simp [avCt, cCt], by simp⟩
            | trace_state
        rintro ts mm ⟨rfl, rfl⟩
        repeat' with_reducible first
          | refine wp_regionS (seg_eval (by simp -dsimp -implicitDefEqProofs [eqCells_bi, he, ha, ho, hn]; rfl) ?_)
          | refine wp_region (seg_eval (by simp -dsimp -implicitDefEqProofs [eqCells_bi, he, ha, ho, hn]; rfl) ?_)
          | refine wp_drawsS (seg_eval (by simp -dsimp -implicitDefEqProofs [eqCells_bi, he, ha, ho, hn]; rfl) ?_)
          | refine wp_draws (seg_eval (by simp -dsimp -implicitDefEqProofs [eqCells_bi, he, ha, ho, hn]; rfl) ?_)
          | refine seg_fin ?_
          | refine seg_pan ?_
          | refine seg_both ?_ ?_
          | refine seg_case (fun x h => ?_) (fun h => ?_)
          | refine seg_gate (fun h => ?_) (fun h => ?_)
          | refine seg_need ?_ ?_
          | refine wp_assoc ?_ | refine wp_skipS ?_ | refine wp_retS ?_ | refine wp_exitS ?_ | refine wp_dropS (wp_eqT (by simp -dsimp -implicitDefEqProofs; rfl) ?_) | refine wp_sealS (by simp -dsimp -implicitDefEqProofs; rfl) ?_ | refine wp_seal (by simp -dsimp -implicitDefEqProofs; rfl) ?_ | refine wp_pack_out ?_ | refine wp_blockS ?_ | refine wp_skip' ?_ | refine wp_ret' ?_ | refine wp_exit' ?_ | refine wp_drop (wp_eqT (by simp -dsimp -implicitDefEqProofs; rfl) ?_) | refine wp_block' ?_
          | refine wp_condVS (by simp -dsimp -implicitDefEqProofs; rfl) ?_
          | refine wp_condV (by simp -dsimp -implicitDefEqProofs; rfl) ?_
          | refine cond_t ?_ | refine cond_f ?_ | refine cond_v (fun h => ?_) (fun h => ?_)
          | refine post_then ?_ | refine post_thenE ?_ | refine post_thenP ?_ | refine post_blkP ?_ | refine post_thenR ?_ | refine post_blkN ?_ | refine post_blkE ?_ | refine post_blkF rfl ?_ | refine post_blkR ?_
          | refine seg_eval (by simp -dsimp -implicitDefEqProofs [eqCells_bi, he, ha, ho, hn]; rfl) ?_
        all_goals first
          | exact post_fin rfl rfl ⟨[], [], rfl, rfl, rfl, rfl⟩
          | trace_state
      · skip
        repeat' with_reducible first
          | refine wp_regionS (seg_eval (by simp -dsimp -implicitDefEqProofs [hF, hG]; rfl) ?_)
          | refine wp_region (seg_eval (by simp -dsimp -implicitDefEqProofs [hF, hG]; rfl) ?_)
          | refine seg_fin ?_
          | refine seg_pan ?_
          | refine seg_both ?_ ?_
          | refine seg_case (fun x h => ?_) (fun h => ?_)
          | refine seg_gate (fun h => ?_) (fun h => ?_)
          | refine seg_need ?_ ?_
          | refine wp_assoc ?_ | refine wp_skipS ?_ | refine wp_retS ?_ | refine wp_exitS ?_ | refine wp_dropS (wp_eqT (by simp -dsimp -implicitDefEqProofs; rfl) ?_) | refine wp_sealS (by simp -dsimp -implicitDefEqProofs; rfl) ?_ | refine wp_seal (by simp -dsimp -implicitDefEqProofs; rfl) ?_ | refine wp_pack_out ?_ | refine wp_blockS ?_ | refine wp_skip' ?_ | refine wp_ret' ?_ | refine wp_exit' ?_ | refine wp_drop (wp_eqT (by simp -dsimp -implicitDefEqProofs; rfl) ?_) | refine wp_block' ?_
          | refine wp_condVS (by simp -dsimp -implicitDefEqProofs; rfl) ?_
          | refine wp_condV (by simp -dsimp -implicitDefEqProofs; rfl) ?_
          | refine cond_t ?_ | refine cond_f ?_ | refine cond_v (fun h => ?_) (fun h => ?_)
          | refine post_then ?_ | refine post_thenE ?_ | refine post_thenP ?_ | refine post_blkP ?_ | refine post_thenR ?_ | refine post_blkN ?_ | refine post_blkE ?_ | refine post_blkF rfl ?_ | refine post_blkR ?_
          | refine seg_eval (by simp -dsimp -implicitDefEqProofs [hF, hG]; rfl) ?_
        refine wp_drawsR (fun ts mm => ts = [(3, .fptr (.agg [.v (.int .i64 v), .v (.int .u16 (m : Nat))]) 0), (7, .ptr 0 0 0), (8, .ptr 1 0 0), (15, .v (.int .u16 (f : Nat))), (16, .v (.int .u16 (g : Nat)))] ∧ mm = [.var [.v (.bool xa), .v (.int .u8 xi)], .var [.v (.bool ya), .v (.int .u8 yi)]]) ?_ ?_
        · intro W hW
          repeat' with_reducible first
            | refine wp_regionS (seg_eval (by simp -dsimp -implicitDefEqProofs [hF, hG]; rfl) ?_)
            | refine wp_region (seg_eval (by simp -dsimp -implicitDefEqProofs [hF, hG]; rfl) ?_)
            | refine wp_drawsS (seg_eval (by simp -dsimp -implicitDefEqProofs [hF, hG]; rfl) ?_)
            | refine wp_draws (seg_eval (by simp -dsimp -implicitDefEqProofs [hF, hG]; rfl) ?_)
            | refine seg_fin ?_
            | refine seg_pan ?_
            | refine seg_both ?_ ?_
            | refine seg_case (fun x h => ?_) (fun h => ?_)
            | refine seg_gate (fun h => ?_) (fun h => ?_)
            | refine seg_need ?_ ?_
            | refine wp_assoc ?_ | refine wp_skipS ?_ | refine wp_retS ?_ | refine wp_exitS ?_ | refine wp_dropS (wp_eqT (by simp -dsimp -implicitDefEqProofs; rfl) ?_) | refine wp_sealS (by simp -dsimp -implicitDefEqProofs; rfl) ?_ | refine wp_seal (by simp -dsimp -implicitDefEqProofs; rfl) ?_ | refine wp_pack_out ?_ | refine wp_blockS ?_ | refine wp_skip' ?_ | refine wp_ret' ?_ | refine wp_exit' ?_ | refine wp_drop (wp_eqT (by simp -dsimp -implicitDefEqProofs; rfl) ?_) | refine wp_block' ?_
            | refine wp_condVS (by simp -dsimp -implicitDefEqProofs; rfl) ?_
            | refine wp_condV (by simp -dsimp -implicitDefEqProofs; rfl) ?_
            | refine cond_t ?_ | refine cond_f ?_ | refine cond_v (fun h => ?_) (fun h => ?_)
            | refine post_then ?_ | refine post_thenE ?_ | refine post_thenP ?_ | refine post_blkP ?_ | refine post_thenR ?_ | refine post_blkN ?_ | refine post_blkE ?_ | refine post_blkF rfl ?_ | refine post_blkR ?_
            | refine seg_eval (by simp -dsimp -implicitDefEqProofs [hF, hG]; rfl) ?_
          all_goals first
            | omega
            | exact hW _ _ ⟨[], [0, 1], rfl, rfl, by simp [avCt, cCt], by simp⟩
            | trace_state
        rintro ts mm ⟨rfl, rfl⟩
        repeat' with_reducible first
          | refine wp_regionS (seg_eval (by simp -dsimp -implicitDefEqProofs [eqCells_bi, he, ha, ho, hn]; rfl) ?_)
          | refine wp_region (seg_eval (by simp -dsimp -implicitDefEqProofs [eqCells_bi, he, ha, ho, hn]; rfl) ?_)
          | refine wp_drawsS (seg_eval (by simp -dsimp -implicitDefEqProofs [eqCells_bi, he, ha, ho, hn]; rfl) ?_)
          | refine wp_draws (seg_eval (by simp -dsimp -implicitDefEqProofs [eqCells_bi, he, ha, ho, hn]; rfl) ?_)
          | refine seg_fin ?_
          | refine seg_pan ?_
          | refine seg_both ?_ ?_
          | refine seg_case (fun x h => ?_) (fun h => ?_)
          | refine seg_gate (fun h => ?_) (fun h => ?_)
          | refine seg_need ?_ ?_
          | refine wp_assoc ?_ | refine wp_skipS ?_ | refine wp_retS ?_ | refine wp_exitS ?_ | refine wp_dropS (wp_eqT (by simp -dsimp -implicitDefEqProofs; rfl) ?_) | refine wp_sealS (by simp -dsimp -implicitDefEqProofs; rfl) ?_ | refine wp_seal (by simp -dsimp -implicitDefEqProofs; rfl) ?_ | refine wp_pack_out ?_ | refine wp_blockS ?_ | refine wp_skip' ?_ | refine wp_ret' ?_ | refine wp_exit' ?_ | refine wp_drop (wp_eqT (by simp -dsimp -implicitDefEqProofs; rfl) ?_) | refine wp_block' ?_
          | refine wp_condVS (by simp -dsimp -implicitDefEqProofs; rfl) ?_
          | refine wp_condV (by simp -dsimp -implicitDefEqProofs; rfl) ?_
          | refine cond_t ?_ | refine cond_f ?_ | refine cond_v (fun h => ?_) (fun h => ?_)
          | refine post_then ?_ | refine post_thenE ?_ | refine post_thenP ?_ | refine post_blkP ?_ | refine post_thenR ?_ | refine post_blkN ?_ | refine post_blkE ?_ | refine post_blkF rfl ?_ | refine post_blkR ?_
          | refine seg_eval (by simp -dsimp -implicitDefEqProofs [eqCells_bi, he, ha, ho, hn]; rfl) ?_
        all_goals first
          | exact post_fin rfl rfl ⟨[], [], rfl, rfl, rfl, rfl⟩
          | trace_state
    · rcases hbb with ⟨hl0, rfl⟩ | rfl
      · rw [hl0] at hF hG
        simp only [List.map_nil] at hF hG
        repeat' with_reducible first
          | refine wp_regionS (seg_eval (by simp -dsimp -implicitDefEqProofs [hF, hG]; rfl) ?_)
          | refine wp_region (seg_eval (by simp -dsimp -implicitDefEqProofs [hF, hG]; rfl) ?_)
          | refine seg_fin ?_
          | refine seg_pan ?_
          | refine seg_both ?_ ?_
          | refine seg_case (fun x h => ?_) (fun h => ?_)
          | refine seg_gate (fun h => ?_) (fun h => ?_)
          | refine seg_need ?_ ?_
          | refine wp_assoc ?_ | refine wp_skipS ?_ | refine wp_retS ?_ | refine wp_exitS ?_ | refine wp_dropS (wp_eqT (by simp -dsimp -implicitDefEqProofs; rfl) ?_) | refine wp_sealS (by simp -dsimp -implicitDefEqProofs; rfl) ?_ | refine wp_seal (by simp -dsimp -implicitDefEqProofs; rfl) ?_ | refine wp_pack_out ?_ | refine wp_blockS ?_ | refine wp_skip' ?_ | refine wp_ret' ?_ | refine wp_exit' ?_ | refine wp_drop (wp_eqT (by simp -dsimp -implicitDefEqProofs; rfl) ?_) | refine wp_block' ?_
          | refine wp_condVS (by simp -dsimp -implicitDefEqProofs; rfl) ?_
          | refine wp_condV (by simp -dsimp -implicitDefEqProofs; rfl) ?_
          | refine cond_t ?_ | refine cond_f ?_ | refine cond_v (fun h => ?_) (fun h => ?_)
          | refine post_then ?_ | refine post_thenE ?_ | refine post_thenP ?_ | refine post_blkP ?_ | refine post_thenR ?_ | refine post_blkN ?_ | refine post_blkE ?_ | refine post_blkF rfl ?_ | refine post_blkR ?_
          | refine seg_eval (by simp -dsimp -implicitDefEqProofs [hF, hG]; rfl) ?_
        refine wp_drawsR (fun ts mm => ts = [(3, .fptr (.agg [.v (.int .i64 v), .v (.int .u16 (m : Nat))]) 0), (7, .ptr 0 0 0), (8, .ptr 1 0 0), (15, .v (.int .u16 (f : Nat))), (16, .v (.int .u16 (g : Nat)))] ∧ mm = [.var [.v (.bool xa), .v (.int .u8 xi)], .var [.v (.bool ya), .v (.int .u8 yi)]]) ?_ ?_
        · intro W hW
          repeat' with_reducible first
            | refine wp_regionS (seg_eval (by simp -dsimp -implicitDefEqProofs [hF, hG]; rfl) ?_)
            | refine wp_region (seg_eval (by simp -dsimp -implicitDefEqProofs [hF, hG]; rfl) ?_)
            | refine wp_drawsS (seg_eval (by simp -dsimp -implicitDefEqProofs [hF, hG]; rfl) ?_)
            | refine wp_draws (seg_eval (by simp -dsimp -implicitDefEqProofs [hF, hG]; rfl) ?_)
            | refine seg_fin ?_
            | refine seg_pan ?_
            | refine seg_both ?_ ?_
            | refine seg_case (fun x h => ?_) (fun h => ?_)
            | refine seg_gate (fun h => ?_) (fun h => ?_)
            | refine seg_need ?_ ?_
            | refine wp_assoc ?_ | refine wp_skipS ?_ | refine wp_retS ?_ | refine wp_exitS ?_ | refine wp_dropS (wp_eqT (by simp -dsimp -implicitDefEqProofs; rfl) ?_) | refine wp_sealS (by simp -dsimp -implicitDefEqProofs; rfl) ?_ | refine wp_seal (by simp -dsimp -implicitDefEqProofs; rfl) ?_ | refine wp_pack_out ?_ | refine wp_blockS ?_ | refine wp_skip' ?_ | refine wp_ret' ?_ | refine wp_exit' ?_ | refine wp_drop (wp_eqT (by simp -dsimp -implicitDefEqProofs; rfl) ?_) | refine wp_block' ?_
            | refine wp_condVS (by simp -dsimp -implicitDefEqProofs; rfl) ?_
            | refine wp_condV (by simp -dsimp -implicitDefEqProofs; rfl) ?_
            | refine cond_t ?_ | refine cond_f ?_ | refine cond_v (fun h => ?_) (fun h => ?_)
            | refine post_then ?_ | refine post_thenE ?_ | refine post_thenP ?_ | refine post_blkP ?_ | refine post_thenR ?_ | refine post_blkN ?_ | refine post_blkE ?_ | refine post_blkF rfl ?_ | refine post_blkR ?_
            | refine seg_eval (by simp -dsimp -implicitDefEqProofs [hF, hG]; rfl) ?_
          all_goals first
            | omega
            | exact hW _ _ ⟨[], [0, 1], rfl, rfl, by simp [avCt, cCt], by simp⟩
            | trace_state
        rintro ts mm ⟨rfl, rfl⟩
        repeat' with_reducible first
          | refine wp_regionS (seg_eval (by simp -dsimp -implicitDefEqProofs [eqCells_bi, he, ho, hn]; rfl) ?_)
          | refine wp_region (seg_eval (by simp -dsimp -implicitDefEqProofs [eqCells_bi, he, ho, hn]; rfl) ?_)
          | refine wp_drawsS (seg_eval (by simp -dsimp -implicitDefEqProofs [eqCells_bi, he, ho, hn]; rfl) ?_)
          | refine wp_draws (seg_eval (by simp -dsimp -implicitDefEqProofs [eqCells_bi, he, ho, hn]; rfl) ?_)
          | refine seg_fin ?_
          | refine seg_pan ?_
          | refine seg_both ?_ ?_
          | refine seg_case (fun x h => ?_) (fun h => ?_)
          | refine seg_gate (fun h => ?_) (fun h => ?_)
          | refine seg_need ?_ ?_
          | refine wp_assoc ?_ | refine wp_skipS ?_ | refine wp_retS ?_ | refine wp_exitS ?_ | refine wp_dropS (wp_eqT (by simp -dsimp -implicitDefEqProofs; rfl) ?_) | refine wp_sealS (by simp -dsimp -implicitDefEqProofs; rfl) ?_ | refine wp_seal (by simp -dsimp -implicitDefEqProofs; rfl) ?_ | refine wp_pack_out ?_ | refine wp_blockS ?_ | refine wp_skip' ?_ | refine wp_ret' ?_ | refine wp_exit' ?_ | refine wp_drop (wp_eqT (by simp -dsimp -implicitDefEqProofs; rfl) ?_) | refine wp_block' ?_
          | refine wp_condVS (by simp -dsimp -implicitDefEqProofs; rfl) ?_
          | refine wp_condV (by simp -dsimp -implicitDefEqProofs; rfl) ?_
          | refine cond_t ?_ | refine cond_f ?_ | refine cond_v (fun h => ?_) (fun h => ?_)
          | refine post_then ?_ | refine post_thenE ?_ | refine post_thenP ?_ | refine post_blkP ?_ | refine post_thenR ?_ | refine post_blkN ?_ | refine post_blkE ?_ | refine post_blkF rfl ?_ | refine post_blkR ?_
          | refine seg_eval (by simp -dsimp -implicitDefEqProofs [eqCells_bi, he, ho, hn]; rfl) ?_
        all_goals first
          | exact post_fin rfl rfl ⟨[], [], rfl, rfl, rfl, rfl⟩
          | trace_state
      · skip
        repeat' with_reducible first
          | refine wp_regionS (seg_eval (by simp -dsimp -implicitDefEqProofs [hF, hG]; rfl) ?_)
          | refine wp_region (seg_eval (by simp -dsimp -implicitDefEqProofs [hF, hG]; rfl) ?_)
          | refine seg_fin ?_
          | refine seg_pan ?_
          | refine seg_both ?_ ?_
          | refine seg_case (fun x h => ?_) (fun h => ?_)
          | refine seg_gate (fun h => ?_) (fun h => ?_)
          | refine seg_need ?_ ?_
          | refine wp_assoc ?_ | refine wp_skipS ?_ | refine wp_retS ?_ | refine wp_exitS ?_ | refine wp_dropS (wp_eqT (by simp -dsimp -implicitDefEqProofs; rfl) ?_) | refine wp_sealS (by simp -dsimp -implicitDefEqProofs; rfl) ?_ | refine wp_seal (by simp -dsimp -implicitDefEqProofs; rfl) ?_ | refine wp_pack_out ?_ | refine wp_blockS ?_ | refine wp_skip' ?_ | refine wp_ret' ?_ | refine wp_exit' ?_ | refine wp_drop (wp_eqT (by simp -dsimp -implicitDefEqProofs; rfl) ?_) | refine wp_block' ?_
          | refine wp_condVS (by simp -dsimp -implicitDefEqProofs; rfl) ?_
          | refine wp_condV (by simp -dsimp -implicitDefEqProofs; rfl) ?_
          | refine cond_t ?_ | refine cond_f ?_ | refine cond_v (fun h => ?_) (fun h => ?_)
          | refine post_then ?_ | refine post_thenE ?_ | refine post_thenP ?_ | refine post_blkP ?_ | refine post_thenR ?_ | refine post_blkN ?_ | refine post_blkE ?_ | refine post_blkF rfl ?_ | refine post_blkR ?_
          | refine seg_eval (by simp -dsimp -implicitDefEqProofs [hF, hG]; rfl) ?_
        refine wp_drawsR (fun ts mm => ts = [(3, .fptr (.agg [.v (.int .i64 v), .v (.int .u16 (m : Nat))]) 0), (7, .ptr 0 0 0), (8, .ptr 1 0 0), (15, .v (.int .u16 (f : Nat))), (16, .v (.int .u16 (g : Nat)))] ∧ mm = [.var [.v (.bool xa), .v (.int .u8 xi)], .var [.v (.bool ya), .v (.int .u8 yi)]]) ?_ ?_
        · intro W hW
          repeat' with_reducible first
            | refine wp_regionS (seg_eval (by simp -dsimp -implicitDefEqProofs [hF, hG]; rfl) ?_)
            | refine wp_region (seg_eval (by simp -dsimp -implicitDefEqProofs [hF, hG]; rfl) ?_)
            | refine wp_drawsS (seg_eval (by simp -dsimp -implicitDefEqProofs [hF, hG]; rfl) ?_)
            | refine wp_draws (seg_eval (by simp -dsimp -implicitDefEqProofs [hF, hG]; rfl) ?_)
            | refine seg_fin ?_
            | refine seg_pan ?_
            | refine seg_both ?_ ?_
            | refine seg_case (fun x h => ?_) (fun h => ?_)
            | refine seg_gate (fun h => ?_) (fun h => ?_)
            | refine seg_need ?_ ?_
            | refine wp_assoc ?_ | refine wp_skipS ?_ | refine wp_retS ?_ | refine wp_exitS ?_ | refine wp_dropS (wp_eqT (by simp -dsimp -implicitDefEqProofs; rfl) ?_) | refine wp_sealS (by simp -dsimp -implicitDefEqProofs; rfl) ?_ | refine wp_seal (by simp -dsimp -implicitDefEqProofs; rfl) ?_ | refine wp_pack_out ?_ | refine wp_blockS ?_ | refine wp_skip' ?_ | refine wp_ret' ?_ | refine wp_exit' ?_ | refine wp_drop (wp_eqT (by simp -dsimp -implicitDefEqProofs; rfl) ?_) | refine wp_block' ?_
            | refine wp_condVS (by simp -dsimp -implicitDefEqProofs; rfl) ?_
            | refine wp_condV (by simp -dsimp -implicitDefEqProofs; rfl) ?_
            | refine cond_t ?_ | refine cond_f ?_ | refine cond_v (fun h => ?_) (fun h => ?_)
            | refine post_then ?_ | refine post_thenE ?_ | refine post_thenP ?_ | refine post_blkP ?_ | refine post_thenR ?_ | refine post_blkN ?_ | refine post_blkE ?_ | refine post_blkF rfl ?_ | refine post_blkR ?_
            | refine seg_eval (by simp -dsimp -implicitDefEqProofs [hF, hG]; rfl) ?_
          all_goals first
            | omega
            | exact hW _ _ ⟨[], [0, 1], rfl, rfl, by simp [avCt, cCt], by simp⟩
            | trace_state
        rintro ts mm ⟨rfl, rfl⟩
        repeat' with_reducible first
          | refine wp_regionS (seg_eval (by simp -dsimp -implicitDefEqProofs [eqCells_bi, he, ho, hn]; rfl) ?_)
          | refine wp_region (seg_eval (by simp -dsimp -implicitDefEqProofs [eqCells_bi, he, ho, hn]; rfl) ?_)
          | refine wp_drawsS (seg_eval (by simp -dsimp -implicitDefEqProofs [eqCells_bi, he, ho, hn]; rfl) ?_)
          | refine wp_draws (seg_eval (by simp -dsimp -implicitDefEqProofs [eqCells_bi, he, ho, hn]; rfl) ?_)
          | refine seg_fin ?_
          | refine seg_pan ?_
          | refine seg_both ?_ ?_
          | refine seg_case (fun x h => ?_) (fun h => ?_)
          | refine seg_gate (fun h => ?_) (fun h => ?_)
          | refine seg_need ?_ ?_
          | refine wp_assoc ?_ | refine wp_skipS ?_ | refine wp_retS ?_ | refine wp_exitS ?_ | refine wp_dropS (wp_eqT (by simp -dsimp -implicitDefEqProofs; rfl) ?_) | refine wp_sealS (by simp -dsimp -implicitDefEqProofs; rfl) ?_ | refine wp_seal (by simp -dsimp -implicitDefEqProofs; rfl) ?_ | refine wp_pack_out ?_ | refine wp_blockS ?_ | refine wp_skip' ?_ | refine wp_ret' ?_ | refine wp_exit' ?_ | refine wp_drop (wp_eqT (by simp -dsimp -implicitDefEqProofs; rfl) ?_) | refine wp_block' ?_
          | refine wp_condVS (by simp -dsimp -implicitDefEqProofs; rfl) ?_
          | refine wp_condV (by simp -dsimp -implicitDefEqProofs; rfl) ?_
          | refine cond_t ?_ | refine cond_f ?_ | refine cond_v (fun h => ?_) (fun h => ?_)
          | refine post_then ?_ | refine post_thenE ?_ | refine post_thenP ?_ | refine post_blkP ?_ | refine post_thenR ?_ | refine post_blkN ?_ | refine post_blkE ?_ | refine post_blkF rfl ?_ | refine post_blkR ?_
          | refine seg_eval (by simp -dsimp -implicitDefEqProofs [eqCells_bi, he, ho, hn]; rfl) ?_
        all_goals first
          | exact post_fin rfl rfl ⟨[], [], rfl, rfl, rfl, rfl⟩
          | trace_state
end Go.Proofs.Ytbponegjfccgfaa.Am
