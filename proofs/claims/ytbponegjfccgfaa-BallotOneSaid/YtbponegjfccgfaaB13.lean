/-
  WHAT IS CHOSEN IS WANTED BY ENOUGH, CAN BE APPLIED, AND STAYS.
-/
import Derived.Test.YtbponegjfccgfaaBPL
import Derived.Test.YtbponegjfccgfaaCodeO
namespace Go.Proofs.Ytbponegjfccgfaa.Am
set_option linter.unusedSimpArgs false
set_option linter.unusedVariables false
open Go Go.Proofs
attribute [local irreducible] wpA
attribute [-simp] splice

noncomputable def spBallotOne : Spec := spc (X := Int × Nat × List Ct) (fun p => ([.agg [.v (.int .i64 p.1), .v (.int .u16 (p.2.1 : Nat))], .fsl 3 (p.2.2.map avCt)], []))
  (fun p => p.2.1 < 65536 ∧ (∀ y ∈ p.2.2, okCt y) ∧ p.2.2.length ≤ maxLen) (fun _ => (.ret (.v (.bool true)), []))

set_option maxHeartbeats 40000000 in
theorem ballotOne_ok : CallOk Try.prog 10 spBallotOne := by
  refine okp_10 (Env.put_ok [] (Env.put_ok [] (Env.put_ok [] (Env.put_ok [] (Env.put_ok [] (Env.put_ok [] (Env.put_ok [] (Env.put_ok [] (Env.put_ok [] (Env.put_ok [] (Env.none_ok _) alive12_ok) (CallOk.fixD [.agg [.no, .no, .k 3]] oursC_ok)) theirs1_ok) (CallOk.fixD [.agg [.no, .no, .k 3]] putC_ok)) chosen_ok) sameC_ok) apply_ok) forC_ok) sizeR_ok) echoesR_ok) spBallotOne (wb_spc ?_)
  rintro ⟨v, m, ms⟩ ⟨hm, hms, hmx⟩
  simp only at hm hms hmx ⊢
  have hml : (m : Int) < 65536 := by omega
  have hxl : ms.length ≤ 9223372036854775807 := by have := hmx; unfold maxLen at this; omega
  have hse := size_le m
  unfold acp_10
  repeat' with_reducible first
    | refine wp_regionS (seg_eval (by simp -dsimp -implicitDefEqProofs [spAliveB, spSize, hml]; rfl) ?_)
    | refine wp_region (seg_eval (by simp -dsimp -implicitDefEqProofs [spAliveB, spSize, hml]; rfl) ?_)
    | refine wp_drawsS (seg_eval (by simp -dsimp -implicitDefEqProofs [spAliveB, spSize, hml]; rfl) ?_)
    | refine wp_draws (seg_eval (by simp -dsimp -implicitDefEqProofs [spAliveB, spSize, hml]; rfl) ?_)
    | refine seg_fin ?_
    | refine seg_pan ?_
    | refine seg_both ?_ ?_
    | refine seg_case (fun x h => ?_) (fun h => ?_)
    | refine seg_gate (fun h => ?_) (fun h => ?_)
    | refine seg_need ?_ ?_
    | refine wp_assoc ?_ | refine wp_skipS ?_ | refine wp_retS ?_ | refine wp_exitS ?_ | refine wp_dropS (wp_eqT (by simp -dsimp -implicitDefEqProofs; rfl) ?_) | refine wp_sealS (by simp -dsimp -implicitDefEqProofs; rfl) ?_ | refine wp_seal (by simp -dsimp -implicitDefEqProofs; rfl) ?_ | refine wp_pack_out ?_ | refine wp_blockS ?_ | refine wp_skip' ?_ | refine wp_ret' ?_ | refine wp_exit' ?_ | refine wp_drop (wp_eqT (by simp -dsimp -implicitDefEqProofs; rfl) ?_) | refine wp_block' ?_
    | refine wp_condVS (by simp -dsimp -implicitDefEqProofs; rfl) ?_
    | refine wp_condV (by simp -dsimp -implicitDefEqProofs; rfl) ?_
    | refine cond_t ?_ | refine cond_f ?_ | refine cond_v (fun h => ?_) (fun h => ?_)
    | refine post_then ?_ | refine post_thenE ?_ | refine post_thenP ?_ | refine post_blkP ?_ | refine post_thenR ?_ | refine post_blkN ?_ | refine post_blkE ?_ | refine post_blkF rfl ?_ | refine post_blkR ?_
    | refine seg_eval (by simp -dsimp -implicitDefEqProofs [spAliveB, spSize, hml]; rfl) ?_
  all_goals first
    | omega
    | skip
  refine wp_loop' (fun j ts mm => ∃ (i : Nat) (l : List Ct) (ca : Bool) (ci : Int) (cb : Bool), i + j = ms.length ∧ l.length ≤ i ∧ i ≤ 60 ∧ (∀ y ∈ l, okCt y) ∧ InvB v m l ∧ chosenC v m l = ((ca, ci), cb) ∧
    ts = [(1, .fsl 3 (ms.map avCt)), (2, .fptr (.agg [.v (.int .i64 v), .v (.int .u16 (m : Nat))]) 0), (5, .ptr 0 0 0), (6, .v (.int .i64 (sizeS m : Nat))), (7, .ptr 1 0 0), (8, .v (.bool cb)), (9, .v (.int .i64 i))] ∧
    ((l = [] ∧ mm = [.var [.v (.int .i64 v), .v (.int .u16 (m : Nat)), .v (.slice none 0 0)], .var [.v (.bool ca), .v (.int .u8 ci)]]) ∨
     mm = [.var [.v (.int .i64 v), .v (.int .u16 (m : Nat)), .fsl 3 (l.map avCt)], .var [.v (.bool ca), .v (.int .u8 ci)]])) ms.length ?_ ?_
  · exact ⟨[], [1, 2], rfl, rfl, 0, [], false, 0, false, by omega, by simp, by omega, by simp, .inr rfl, by simp [chosenC], by simp, .inl ⟨rfl, by simp⟩⟩
  · rintro j ts mm ⟨i, l, ca, ci, cb, hi, hll, hi60, hok, hinv, hch, rfl, hmm⟩
    by_cases hlt : i < ms.length
    · have hd : decide ((i : Int) < (ms.length : Int)) = true := by rw [decide_eq_true_eq]; omega
      have hd2 : decide (i < ms.length) = true := by simp [hlt]
      by_cases h60 : i < 60
      · have hd4 : decide ((i : Int) < 60) = true := by rw [decide_eq_true_eq]; omega
        have hd5 : decide (i < 60) = true := by simp [h60]
        obtain ⟨x, hx⟩ : ∃ x, ms[i]? = some x := ⟨_, List.getElem?_eq_getElem (by omega)⟩
        have hc := hms x (List.mem_of_getElem? hx)
        have h64 : IntKind.wrap .i64 ((i : Int) + 1) = ((i + 1 : Nat) : Int) := by rw [IntWalk.i64_in _ (by omega)]; rfl
        have hstay := fun h => chosen_stays hm hinv hok hc h
        have hinv' := inv_put hinv x
        obtain ⟨w, a, d⟩ := x
        have hP := putCAt v m l w a d
        rw [if_pos ⟨hm, by omega, hok, hc⟩] at hP
        have hpm : ∀ y ∈ (putC v m l ⟨w, a, d⟩).1, okCt y := fun y hy => by
          rcases putC_mem hy with rfl | hy
          · exact hc
          · exact hok y hy
        have hpl := putC_len v m l ⟨w, a, d⟩
        have hC2 := convCAt v m (putC v m l ⟨w, a, d⟩).1
        rw [if_pos (by omega)] at hC2
        have hC := convCAt v m l
        rw [if_pos (by omega)] at hC
        have hS := sameCAt v m l v m l
        rw [if_pos ⟨by omega, by omega⟩, sameC_iff.2 ⟨rfl, rfl, rfl⟩] at hS
        have hH := chosenAt v m (putC v m l ⟨w, a, d⟩).1
        rw [if_pos ⟨hm, by omega, hpm⟩] at hH
        have hnot := putC_not (v := v) (m := m) (l := l) (c := ⟨w, a, d⟩)
        have hsome := chosen_some hm hinv' hpm
        generalize putC v m l ⟨w, a, d⟩ = p at *
        obtain ⟨l', e⟩ := p
        simp only at hP hC2 hH hpm hpl hinv' hnot hsome hstay
        have happ : (chosenC v m l').2 = true → (applyV v m (chosenC v m l').1.1 (chosenC v m l').1.2.toNat).2 = 0 ∧ 0 ≤ (chosenC v m l').1.2 ∧ (chosenC v m l').1.2 < 256 ∧ echoesS (sizeS m) ≤ ((sizeS (forC v m l' (chosenC v m l').1.1 (chosenC v m l').1.2) : Nat) : Int) := fun h => by
          obtain ⟨hb, c, hcl, e1, e2⟩ := hsome h
          rw [e1]
          have := hpm c hcl
          unfold goodC at e2
          rw [decide_eq_true_eq] at e2
          exact ⟨(box_mem hb hcl).1, this.2.2.1, this.2.2.2, e2⟩
        rw [hch] at hstay
        generalize hch' : chosenC v m l' = ch at *
        obtain ⟨⟨ca', ci'⟩, cb'⟩ := ch
        simp only at hH happ hstay
        have hF := forCAt v m l' ca' ci'
        rw [if_pos ⟨hm, by omega, hpm⟩] at hF
        have hFl := forC_lt v m l' ca' ci'
        have hcs : (cb' = false ∧ cb = false) ∨ (cb' = true ∧ cb = false) ∨ (cb' = true ∧ cb = true ∧ ca' = ca ∧ ci' = ci) := by
          cases cb
          · cases cb' <;> simp
          · have := hstay rfl
            simp only [Prod.mk.injEq] at this
            exact .inr (.inr ⟨this.2, rfl, this.1.1, this.1.2⟩)
        have hee : (e = 0) ∨ (e ≠ 0 ∧ l' = l) := by
          by_cases he : e = 0
          · exact .inl he
          · exact .inr ⟨he, hnot he⟩
        clear hstay hnot hsome
        clear hinv
        rcases hcs with ⟨rfl, rfl⟩ | ⟨rfl, rfl⟩ | ⟨rfl, rfl, rfl, rfl⟩
        · rcases hee with rfl | ⟨he, rfl⟩
          · rcases hmm with ⟨hl0, rfl⟩ | rfl
            · rw [hl0] at hP
              simp only [List.map_nil] at hP
              repeat' with_reducible first
                | refine wp_regionS (seg_eval (by simp -dsimp -implicitDefEqProofs [avCt, cCt, spCt1, hd, hd2, hd4, hd5, h64, hx, hP, hH]; rfl) ?_)
                | refine wp_region (seg_eval (by simp -dsimp -implicitDefEqProofs [avCt, cCt, spCt1, hd, hd2, hd4, hd5, h64, hx, hP, hH]; rfl) ?_)
                | refine seg_fin ?_
                | refine seg_pan ?_
                | refine seg_both ?_ ?_
                | refine seg_case (fun x h => ?_) (fun h => ?_)
                | refine seg_gate (fun h => ?_) (fun h => ?_)
                | refine seg_need ?_ ?_
                | refine wp_assoc ?_ | refine wp_skipS ?_ | refine wp_retS ?_ | refine wp_exitS ?_ | refine wp_dropS (wp_eqT (by simp -dsimp -implicitDefEqProofs; rfl) ?_) | refine wp_sealS (by simp -dsimp -implicitDefEqProofs; rfl) ?_ | refine wp_seal (by simp -dsimp -implicitDefEqProofs; rfl) ?_ | refine wp_pack_out ?_ | refine wp_blockS ?_ | refine wp_skip' ?_ | refine wp_ret' ?_ | refine wp_exit' ?_ | refine wp_drop (wp_eqT (by simp -dsimp -implicitDefEqProofs; rfl) ?_) | refine wp_block' ?_
                | refine wp_condVS (by simp -dsimp -implicitDefEqProofs; rfl) ?_
                | refine wp_condV (by simp -dsimp -implicitDefEqProofs; rfl) ?_
                | refine cond_t ?_ | refine cond_f ?_ | refine cond_v (fun h => ?_) (fun h => ?_)
                | refine post_then ?_ | refine post_thenE ?_ | refine post_thenP ?_ | refine post_blkP ?_ | refine post_thenR ?_ | refine post_blkN ?_ | refine post_blkE ?_ | refine post_blkF rfl ?_ | refine post_blkR ?_
                | refine seg_eval (by simp -dsimp -implicitDefEqProofs [avCt, cCt, spCt1, hd, hd2, hd4, hd5, h64, hx, hP, hH]; rfl) ?_
              refine wp_drawsR (fun ts mm => ts = [(1, .fsl 3 (ms.map avCt)), (2, .fptr (.agg [.v (.int .i64 v), .v (.int .u16 (m : Nat))]) 0), (5, .ptr 0 0 0), (6, .v (.int .i64 (sizeS m : Nat))), (7, .ptr 1 0 0), (8, .v (.bool false)), (9, .v (.int .i64 i)), (10, .ptr 2 0 0), (11, .v (.int .i64 0))] ∧ mm = [.var [.v (.int .i64 v), .v (.int .u16 (m : Nat)), .v (.slice none 0 0)], .var [.v (.bool ca), .v (.int .u8 ci)], .var [.v (.int .i64 v), .v (.int .u16 (m : Nat)), .fsl 3 (l'.map avCt)]]) ?_ ?_
              · intro W hW
                repeat' with_reducible first
                  | refine wp_regionS (seg_eval (by simp -dsimp -implicitDefEqProofs [avCt, cCt, spCt1, hd, hd2, hd4, hd5, h64, hx, hP, hH]; rfl) ?_)
                  | refine wp_region (seg_eval (by simp -dsimp -implicitDefEqProofs [avCt, cCt, spCt1, hd, hd2, hd4, hd5, h64, hx, hP, hH]; rfl) ?_)
                  | refine wp_drawsS (seg_eval (by simp -dsimp -implicitDefEqProofs [avCt, cCt, spCt1, hd, hd2, hd4, hd5, h64, hx, hP, hH]; rfl) ?_)
                  | refine wp_draws (seg_eval (by simp -dsimp -implicitDefEqProofs [avCt, cCt, spCt1, hd, hd2, hd4, hd5, h64, hx, hP, hH]; rfl) ?_)
                  | refine seg_fin ?_
                  | refine seg_pan ?_
                  | refine seg_both ?_ ?_
                  | refine seg_case (fun x h => ?_) (fun h => ?_)
                  | refine seg_gate (fun h => ?_) (fun h => ?_)
                  | refine seg_need ?_ ?_
                  | refine wp_assoc ?_ | refine wp_skipS ?_ | refine wp_retS ?_ | refine wp_exitS ?_ | refine wp_dropS (wp_eqT (by simp -dsimp -implicitDefEqProofs; rfl) ?_) | refine wp_sealS (by simp -dsimp -implicitDefEqProofs; rfl) ?_ | refine wp_seal (by simp -dsimp -implicitDefEqProofs; rfl) ?_ | refine wp_pack_out ?_ | refine wp_blockS ?_ | refine wp_skip' ?_ | refine wp_ret' ?_ | refine wp_exit' ?_ | refine wp_drop (wp_eqT (by simp -dsimp -implicitDefEqProofs; rfl) ?_) | refine wp_block' ?_
                  | refine wp_condVS (by simp -dsimp -implicitDefEqProofs; rfl) ?_
                  | refine wp_condV (by simp -dsimp -implicitDefEqProofs; rfl) ?_
                  | refine cond_t ?_ | refine cond_f ?_ | refine cond_v (fun h => ?_) (fun h => ?_)
                  | refine post_then ?_ | refine post_thenE ?_ | refine post_thenP ?_ | refine post_blkP ?_ | refine post_thenR ?_ | refine post_blkN ?_ | refine post_blkE ?_ | refine post_blkF rfl ?_ | refine post_blkR ?_
                  | refine seg_eval (by simp -dsimp -implicitDefEqProofs [avCt, cCt, spCt1, hd, hd2, hd4, hd5, h64, hx, hP, hH]; rfl) ?_
                all_goals first
                  | omega
                  | exact hW _ _ ⟨[], [0, 1, 2], rfl, rfl, by simp [avCt, cCt], by first | (simp; done) | (simp [hl0]; done)⟩
                  | trace_state
              rintro ts mm ⟨rfl, rfl⟩
              repeat' with_reducible first
                | refine wp_regionS (seg_eval (by simp -dsimp -implicitDefEqProofs [avCt, cCt, spCt1, hd, hd2, hd4, hd5, h64, hx, hP, hH]; rfl) ?_)
                | refine wp_region (seg_eval (by simp -dsimp -implicitDefEqProofs [avCt, cCt, spCt1, hd, hd2, hd4, hd5, h64, hx, hP, hH]; rfl) ?_)
                | refine seg_fin ?_
                | refine seg_pan ?_
                | refine seg_both ?_ ?_
                | refine seg_case (fun x h => ?_) (fun h => ?_)
                | refine seg_gate (fun h => ?_) (fun h => ?_)
                | refine seg_need ?_ ?_
                | refine wp_assoc ?_ | refine wp_skipS ?_ | refine wp_retS ?_ | refine wp_exitS ?_ | refine wp_dropS (wp_eqT (by simp -dsimp -implicitDefEqProofs; rfl) ?_) | refine wp_sealS (by simp -dsimp -implicitDefEqProofs; rfl) ?_ | refine wp_seal (by simp -dsimp -implicitDefEqProofs; rfl) ?_ | refine wp_pack_out ?_ | refine wp_blockS ?_ | refine wp_skip' ?_ | refine wp_ret' ?_ | refine wp_exit' ?_ | refine wp_drop (wp_eqT (by simp -dsimp -implicitDefEqProofs; rfl) ?_) | refine wp_block' ?_
                | refine wp_condVS (by simp -dsimp -implicitDefEqProofs; rfl) ?_
                | refine wp_condV (by simp -dsimp -implicitDefEqProofs; rfl) ?_
                | refine cond_t ?_ | refine cond_f ?_ | refine cond_v (fun h => ?_) (fun h => ?_)
                | refine post_then ?_ | refine post_thenE ?_ | refine post_thenP ?_ | refine post_blkP ?_ | refine post_thenR ?_ | refine post_blkN ?_ | refine post_blkE ?_ | refine post_blkF rfl ?_ | refine post_blkR ?_
                | refine seg_eval (by simp -dsimp -implicitDefEqProofs [avCt, cCt, spCt1, hd, hd2, hd4, hd5, h64, hx, hP, hH]; rfl) ?_
              refine wp_drawsRS (fun ts mm => ts = [(1, .fsl 3 (ms.map avCt)), (2, .fptr (.agg [.v (.int .i64 v), .v (.int .u16 (m : Nat))]) 0), (5, .ptr 0 0 0), (6, .v (.int .i64 (sizeS m : Nat))), (7, .ptr 1 0 0), (8, .v (.bool false)), (9, .v (.int .i64 i)), (10, .ptr 2 0 0), (52, .v (.bool false))] ∧ mm = [.var [.v (.int .i64 v), .v (.int .u16 (m : Nat)), .v (.slice none 0 0)], .var [.v (.bool ca), .v (.int .u8 ci)], .var [.v (.int .i64 v), .v (.int .u16 (m : Nat)), .fsl 3 (l'.map avCt)]]) ?_ ?_
              · intro W hW
                repeat' with_reducible first
                  | refine wp_regionS (seg_eval (by simp -dsimp -implicitDefEqProofs [avCt, cCt, spCt1, hd, hd2, hd4, hd5, h64, hx, hP, hH]; rfl) ?_)
                  | refine wp_region (seg_eval (by simp -dsimp -implicitDefEqProofs [avCt, cCt, spCt1, hd, hd2, hd4, hd5, h64, hx, hP, hH]; rfl) ?_)
                  | refine wp_drawsS (seg_eval (by simp -dsimp -implicitDefEqProofs [avCt, cCt, spCt1, hd, hd2, hd4, hd5, h64, hx, hP, hH]; rfl) ?_)
                  | refine wp_draws (seg_eval (by simp -dsimp -implicitDefEqProofs [avCt, cCt, spCt1, hd, hd2, hd4, hd5, h64, hx, hP, hH]; rfl) ?_)
                  | refine seg_fin ?_
                  | refine seg_pan ?_
                  | refine seg_both ?_ ?_
                  | refine seg_case (fun x h => ?_) (fun h => ?_)
                  | refine seg_gate (fun h => ?_) (fun h => ?_)
                  | refine seg_need ?_ ?_
                  | refine wp_assoc ?_ | refine wp_skipS ?_ | refine wp_retS ?_ | refine wp_exitS ?_ | refine wp_dropS (wp_eqT (by simp -dsimp -implicitDefEqProofs; rfl) ?_) | refine wp_sealS (by simp -dsimp -implicitDefEqProofs; rfl) ?_ | refine wp_seal (by simp -dsimp -implicitDefEqProofs; rfl) ?_ | refine wp_pack_out ?_ | refine wp_blockS ?_ | refine wp_skip' ?_ | refine wp_ret' ?_ | refine wp_exit' ?_ | refine wp_drop (wp_eqT (by simp -dsimp -implicitDefEqProofs; rfl) ?_) | refine wp_block' ?_
                  | refine wp_condVS (by simp -dsimp -implicitDefEqProofs; rfl) ?_
                  | refine wp_condV (by simp -dsimp -implicitDefEqProofs; rfl) ?_
                  | refine cond_t ?_ | refine cond_f ?_ | refine cond_v (fun h => ?_) (fun h => ?_)
                  | refine post_then ?_ | refine post_thenE ?_ | refine post_thenP ?_ | refine post_blkP ?_ | refine post_thenR ?_ | refine post_blkN ?_ | refine post_blkE ?_ | refine post_blkF rfl ?_ | refine post_blkR ?_
                  | refine seg_eval (by simp -dsimp -implicitDefEqProofs [avCt, cCt, spCt1, hd, hd2, hd4, hd5, h64, hx, hP, hH]; rfl) ?_
                all_goals first
                  | omega
                  | exact hW _ _ ⟨[], [0, 1, 2], rfl, rfl, by simp [avCt, cCt], by simp⟩
                  | trace_state
              rintro ts mm ⟨rfl, rfl⟩
              repeat' with_reducible first
                | refine wp_regionS (seg_eval (by simp -dsimp -implicitDefEqProofs [avCt, cCt, spCt1, hd, hd2, hd4, hd5, h64, hx, hP, hH]; rfl) ?_)
                | refine wp_region (seg_eval (by simp -dsimp -implicitDefEqProofs [avCt, cCt, spCt1, hd, hd2, hd4, hd5, h64, hx, hP, hH]; rfl) ?_)
                | refine wp_drawsS (seg_eval (by simp -dsimp -implicitDefEqProofs [avCt, cCt, spCt1, hd, hd2, hd4, hd5, h64, hx, hP, hH]; rfl) ?_)
                | refine wp_draws (seg_eval (by simp -dsimp -implicitDefEqProofs [avCt, cCt, spCt1, hd, hd2, hd4, hd5, h64, hx, hP, hH]; rfl) ?_)
                | refine seg_fin ?_
                | refine seg_pan ?_
                | refine seg_both ?_ ?_
                | refine seg_case (fun x h => ?_) (fun h => ?_)
                | refine seg_gate (fun h => ?_) (fun h => ?_)
                | refine seg_need ?_ ?_
                | refine wp_assoc ?_ | refine wp_skipS ?_ | refine wp_retS ?_ | refine wp_exitS ?_ | refine wp_dropS (wp_eqT (by simp -dsimp -implicitDefEqProofs; rfl) ?_) | refine wp_sealS (by simp -dsimp -implicitDefEqProofs; rfl) ?_ | refine wp_seal (by simp -dsimp -implicitDefEqProofs; rfl) ?_ | refine wp_pack_out ?_ | refine wp_blockS ?_ | refine wp_skip' ?_ | refine wp_ret' ?_ | refine wp_exit' ?_ | refine wp_drop (wp_eqT (by simp -dsimp -implicitDefEqProofs; rfl) ?_) | refine wp_block' ?_
                | refine wp_condVS (by simp -dsimp -implicitDefEqProofs; rfl) ?_
                | refine wp_condV (by simp -dsimp -implicitDefEqProofs; rfl) ?_
                | refine cond_t ?_ | refine cond_f ?_ | refine cond_v (fun h => ?_) (fun h => ?_)
                | refine post_then ?_ | refine post_thenE ?_ | refine post_thenP ?_ | refine post_blkP ?_ | refine post_thenR ?_ | refine post_blkN ?_ | refine post_blkE ?_ | refine post_blkF rfl ?_ | refine post_blkR ?_
                | refine seg_eval (by simp -dsimp -implicitDefEqProofs [avCt, cCt, spCt1, hd, hd2, hd4, hd5, h64, hx, hP, hH]; rfl) ?_
              all_goals first
                | omega
                | exact ⟨j - 1, by omega, [], [0, 1], rfl, rfl, i + 1, l', ca', ci', false, by omega, by omega, by omega, hpm, hinv', hch', by simp, .inr (by simp)⟩
                | trace_state
            · skip
              repeat' with_reducible first
                | refine wp_regionS (seg_eval (by simp -dsimp -implicitDefEqProofs [avCt, cCt, spCt1, hd, hd2, hd4, hd5, h64, hx, hP, hH]; rfl) ?_)
                | refine wp_region (seg_eval (by simp -dsimp -implicitDefEqProofs [avCt, cCt, spCt1, hd, hd2, hd4, hd5, h64, hx, hP, hH]; rfl) ?_)
                | refine seg_fin ?_
                | refine seg_pan ?_
                | refine seg_both ?_ ?_
                | refine seg_case (fun x h => ?_) (fun h => ?_)
                | refine seg_gate (fun h => ?_) (fun h => ?_)
                | refine seg_need ?_ ?_
                | refine wp_assoc ?_ | refine wp_skipS ?_ | refine wp_retS ?_ | refine wp_exitS ?_ | refine wp_dropS (wp_eqT (by simp -dsimp -implicitDefEqProofs; rfl) ?_) | refine wp_sealS (by simp -dsimp -implicitDefEqProofs; rfl) ?_ | refine wp_seal (by simp -dsimp -implicitDefEqProofs; rfl) ?_ | refine wp_pack_out ?_ | refine wp_blockS ?_ | refine wp_skip' ?_ | refine wp_ret' ?_ | refine wp_exit' ?_ | refine wp_drop (wp_eqT (by simp -dsimp -implicitDefEqProofs; rfl) ?_) | refine wp_block' ?_
                | refine wp_condVS (by simp -dsimp -implicitDefEqProofs; rfl) ?_
                | refine wp_condV (by simp -dsimp -implicitDefEqProofs; rfl) ?_
                | refine cond_t ?_ | refine cond_f ?_ | refine cond_v (fun h => ?_) (fun h => ?_)
                | refine post_then ?_ | refine post_thenE ?_ | refine post_thenP ?_ | refine post_blkP ?_ | refine post_thenR ?_ | refine post_blkN ?_ | refine post_blkE ?_ | refine post_blkF rfl ?_ | refine post_blkR ?_
                | refine seg_eval (by simp -dsimp -implicitDefEqProofs [avCt, cCt, spCt1, hd, hd2, hd4, hd5, h64, hx, hP, hH]; rfl) ?_
              refine wp_drawsR (fun ts mm => ts = [(1, .fsl 3 (ms.map avCt)), (2, .fptr (.agg [.v (.int .i64 v), .v (.int .u16 (m : Nat))]) 0), (5, .ptr 0 0 0), (6, .v (.int .i64 (sizeS m : Nat))), (7, .ptr 1 0 0), (8, .v (.bool false)), (9, .v (.int .i64 i)), (10, .ptr 2 0 0), (11, .v (.int .i64 0))] ∧ mm = [.var [.v (.int .i64 v), .v (.int .u16 (m : Nat)), .fsl 3 (l.map avCt)], .var [.v (.bool ca), .v (.int .u8 ci)], .var [.v (.int .i64 v), .v (.int .u16 (m : Nat)), .fsl 3 (l'.map avCt)]]) ?_ ?_
              · intro W hW
                repeat' with_reducible first
                  | refine wp_regionS (seg_eval (by simp -dsimp -implicitDefEqProofs [avCt, cCt, spCt1, hd, hd2, hd4, hd5, h64, hx, hP, hH]; rfl) ?_)
                  | refine wp_region (seg_eval (by simp -dsimp -implicitDefEqProofs [avCt, cCt, spCt1, hd, hd2, hd4, hd5, h64, hx, hP, hH]; rfl) ?_)
                  | refine wp_drawsS (seg_eval (by simp -dsimp -implicitDefEqProofs [avCt, cCt, spCt1, hd, hd2, hd4, hd5, h64, hx, hP, hH]; rfl) ?_)
                  | refine wp_draws (seg_eval (by simp -dsimp -implicitDefEqProofs [avCt, cCt, spCt1, hd, hd2, hd4, hd5, h64, hx, hP, hH]; rfl) ?_)
                  | refine seg_fin ?_
                  | refine seg_pan ?_
                  | refine seg_both ?_ ?_
                  | refine seg_case (fun x h => ?_) (fun h => ?_)
                  | refine seg_gate (fun h => ?_) (fun h => ?_)
                  | refine seg_need ?_ ?_
                  | refine wp_assoc ?_ | refine wp_skipS ?_ | refine wp_retS ?_ | refine wp_exitS ?_ | refine wp_dropS (wp_eqT (by simp -dsimp -implicitDefEqProofs; rfl) ?_) | refine wp_sealS (by simp -dsimp -implicitDefEqProofs; rfl) ?_ | refine wp_seal (by simp -dsimp -implicitDefEqProofs; rfl) ?_ | refine wp_pack_out ?_ | refine wp_blockS ?_ | refine wp_skip' ?_ | refine wp_ret' ?_ | refine wp_exit' ?_ | refine wp_drop (wp_eqT (by simp -dsimp -implicitDefEqProofs; rfl) ?_) | refine wp_block' ?_
                  | refine wp_condVS (by simp -dsimp -implicitDefEqProofs; rfl) ?_
                  | refine wp_condV (by simp -dsimp -implicitDefEqProofs; rfl) ?_
                  | refine cond_t ?_ | refine cond_f ?_ | refine cond_v (fun h => ?_) (fun h => ?_)
                  | refine post_then ?_ | refine post_thenE ?_ | refine post_thenP ?_ | refine post_blkP ?_ | refine post_thenR ?_ | refine post_blkN ?_ | refine post_blkE ?_ | refine post_blkF rfl ?_ | refine post_blkR ?_
                  | refine seg_eval (by simp -dsimp -implicitDefEqProofs [avCt, cCt, spCt1, hd, hd2, hd4, hd5, h64, hx, hP, hH]; rfl) ?_
                all_goals first
                  | omega
                  | exact hW _ _ ⟨[], [0, 1, 2], rfl, rfl, by simp [avCt, cCt], by first | (simp; done) | (simp [hl0]; done)⟩
                  | trace_state
              rintro ts mm ⟨rfl, rfl⟩
              repeat' with_reducible first
                | refine wp_regionS (seg_eval (by simp -dsimp -implicitDefEqProofs [avCt, cCt, spCt1, hd, hd2, hd4, hd5, h64, hx, hP, hH]; rfl) ?_)
                | refine wp_region (seg_eval (by simp -dsimp -implicitDefEqProofs [avCt, cCt, spCt1, hd, hd2, hd4, hd5, h64, hx, hP, hH]; rfl) ?_)
                | refine seg_fin ?_
                | refine seg_pan ?_
                | refine seg_both ?_ ?_
                | refine seg_case (fun x h => ?_) (fun h => ?_)
                | refine seg_gate (fun h => ?_) (fun h => ?_)
                | refine seg_need ?_ ?_
                | refine wp_assoc ?_ | refine wp_skipS ?_ | refine wp_retS ?_ | refine wp_exitS ?_ | refine wp_dropS (wp_eqT (by simp -dsimp -implicitDefEqProofs; rfl) ?_) | refine wp_sealS (by simp -dsimp -implicitDefEqProofs; rfl) ?_ | refine wp_seal (by simp -dsimp -implicitDefEqProofs; rfl) ?_ | refine wp_pack_out ?_ | refine wp_blockS ?_ | refine wp_skip' ?_ | refine wp_ret' ?_ | refine wp_exit' ?_ | refine wp_drop (wp_eqT (by simp -dsimp -implicitDefEqProofs; rfl) ?_) | refine wp_block' ?_
                | refine wp_condVS (by simp -dsimp -implicitDefEqProofs; rfl) ?_
                | refine wp_condV (by simp -dsimp -implicitDefEqProofs; rfl) ?_
                | refine cond_t ?_ | refine cond_f ?_ | refine cond_v (fun h => ?_) (fun h => ?_)
                | refine post_then ?_ | refine post_thenE ?_ | refine post_thenP ?_ | refine post_blkP ?_ | refine post_thenR ?_ | refine post_blkN ?_ | refine post_blkE ?_ | refine post_blkF rfl ?_ | refine post_blkR ?_
                | refine seg_eval (by simp -dsimp -implicitDefEqProofs [avCt, cCt, spCt1, hd, hd2, hd4, hd5, h64, hx, hP, hH]; rfl) ?_
              refine wp_drawsRS (fun ts mm => ts = [(1, .fsl 3 (ms.map avCt)), (2, .fptr (.agg [.v (.int .i64 v), .v (.int .u16 (m : Nat))]) 0), (5, .ptr 0 0 0), (6, .v (.int .i64 (sizeS m : Nat))), (7, .ptr 1 0 0), (8, .v (.bool false)), (9, .v (.int .i64 i)), (10, .ptr 2 0 0), (52, .v (.bool false))] ∧ mm = [.var [.v (.int .i64 v), .v (.int .u16 (m : Nat)), .fsl 3 (l.map avCt)], .var [.v (.bool ca), .v (.int .u8 ci)], .var [.v (.int .i64 v), .v (.int .u16 (m : Nat)), .fsl 3 (l'.map avCt)]]) ?_ ?_
              · intro W hW
                repeat' with_reducible first
                  | refine wp_regionS (seg_eval (by simp -dsimp -implicitDefEqProofs [avCt, cCt, spCt1, hd, hd2, hd4, hd5, h64, hx, hP, hH]; rfl) ?_)
                  | refine wp_region (seg_eval (by simp -dsimp -implicitDefEqProofs [avCt, cCt, spCt1, hd, hd2, hd4, hd5, h64, hx, hP, hH]; rfl) ?_)
                  | refine wp_drawsS (seg_eval (by simp -dsimp -implicitDefEqProofs [avCt, cCt, spCt1, hd, hd2, hd4, hd5, h64, hx, hP, hH]; rfl) ?_)
                  | refine wp_draws (seg_eval (by simp -dsimp -implicitDefEqProofs [avCt, cCt, spCt1, hd, hd2, hd4, hd5, h64, hx, hP, hH]; rfl) ?_)
                  | refine seg_fin ?_
                  | refine seg_pan ?_
                  | refine seg_both ?_ ?_
                  | refine seg_case (fun x h => ?_) (fun h => ?_)
                  | refine seg_gate (fun h => ?_) (fun h => ?_)
                  | refine seg_need ?_ ?_
                  | refine wp_assoc ?_ | refine wp_skipS ?_ | refine wp_retS ?_ | refine wp_exitS ?_ | refine wp_dropS (wp_eqT (by simp -dsimp -implicitDefEqProofs; rfl) ?_) | refine wp_sealS (by simp -dsimp -implicitDefEqProofs; rfl) ?_ | refine wp_seal (by simp -dsimp -implicitDefEqProofs; rfl) ?_ | refine wp_pack_out ?_ | refine wp_blockS ?_ | refine wp_skip' ?_ | refine wp_ret' ?_ | refine wp_exit' ?_ | refine wp_drop (wp_eqT (by simp -dsimp -implicitDefEqProofs; rfl) ?_) | refine wp_block' ?_
                  | refine wp_condVS (by simp -dsimp -implicitDefEqProofs; rfl) ?_
                  | refine wp_condV (by simp -dsimp -implicitDefEqProofs; rfl) ?_
                  | refine cond_t ?_ | refine cond_f ?_ | refine cond_v (fun h => ?_) (fun h => ?_)
                  | refine post_then ?_ | refine post_thenE ?_ | refine post_thenP ?_ | refine post_blkP ?_ | refine post_thenR ?_ | refine post_blkN ?_ | refine post_blkE ?_ | refine post_blkF rfl ?_ | refine post_blkR ?_
                  | refine seg_eval (by simp -dsimp -implicitDefEqProofs [avCt, cCt, spCt1, hd, hd2, hd4, hd5, h64, hx, hP, hH]; rfl) ?_
                all_goals first
                  | omega
                  | exact hW _ _ ⟨[], [0, 1, 2], rfl, rfl, by simp [avCt, cCt], by simp⟩
                  | trace_state
              rintro ts mm ⟨rfl, rfl⟩
              repeat' with_reducible first
                | refine wp_regionS (seg_eval (by simp -dsimp -implicitDefEqProofs [avCt, cCt, spCt1, hd, hd2, hd4, hd5, h64, hx, hP, hH]; rfl) ?_)
                | refine wp_region (seg_eval (by simp -dsimp -implicitDefEqProofs [avCt, cCt, spCt1, hd, hd2, hd4, hd5, h64, hx, hP, hH]; rfl) ?_)
                | refine wp_drawsS (seg_eval (by simp -dsimp -implicitDefEqProofs [avCt, cCt, spCt1, hd, hd2, hd4, hd5, h64, hx, hP, hH]; rfl) ?_)
                | refine wp_draws (seg_eval (by simp -dsimp -implicitDefEqProofs [avCt, cCt, spCt1, hd, hd2, hd4, hd5, h64, hx, hP, hH]; rfl) ?_)
                | refine seg_fin ?_
                | refine seg_pan ?_
                | refine seg_both ?_ ?_
                | refine seg_case (fun x h => ?_) (fun h => ?_)
                | refine seg_gate (fun h => ?_) (fun h => ?_)
                | refine seg_need ?_ ?_
                | refine wp_assoc ?_ | refine wp_skipS ?_ | refine wp_retS ?_ | refine wp_exitS ?_ | refine wp_dropS (wp_eqT (by simp -dsimp -implicitDefEqProofs; rfl) ?_) | refine wp_sealS (by simp -dsimp -implicitDefEqProofs; rfl) ?_ | refine wp_seal (by simp -dsimp -implicitDefEqProofs; rfl) ?_ | refine wp_pack_out ?_ | refine wp_blockS ?_ | refine wp_skip' ?_ | refine wp_ret' ?_ | refine wp_exit' ?_ | refine wp_drop (wp_eqT (by simp -dsimp -implicitDefEqProofs; rfl) ?_) | refine wp_block' ?_
                | refine wp_condVS (by simp -dsimp -implicitDefEqProofs; rfl) ?_
                | refine wp_condV (by simp -dsimp -implicitDefEqProofs; rfl) ?_
                | refine cond_t ?_ | refine cond_f ?_ | refine cond_v (fun h => ?_) (fun h => ?_)
                | refine post_then ?_ | refine post_thenE ?_ | refine post_thenP ?_ | refine post_blkP ?_ | refine post_thenR ?_ | refine post_blkN ?_ | refine post_blkE ?_ | refine post_blkF rfl ?_ | refine post_blkR ?_
                | refine seg_eval (by simp -dsimp -implicitDefEqProofs [avCt, cCt, spCt1, hd, hd2, hd4, hd5, h64, hx, hP, hH]; rfl) ?_
              all_goals first
                | omega
                | exact ⟨j - 1, by omega, [], [0, 1], rfl, rfl, i + 1, l', ca', ci', false, by omega, by omega, by omega, hpm, hinv', hch', by simp, .inr (by simp)⟩
                | trace_state
          · have he1 : (e != (0 : Int)) = true := by simp [he]
            rcases hmm with ⟨hl0, rfl⟩ | rfl
            · rw [hl0] at hP hC hS hH
              simp only [List.map_nil] at hP hC hS hH
              repeat' with_reducible first
                | refine wp_regionS (seg_eval (by simp -dsimp -implicitDefEqProofs [avCt, cCt, spCt1, hd, hd2, hd4, hd5, h64, hx, hP, hH, hC, hS, he1]; rfl) ?_)
                | refine wp_region (seg_eval (by simp -dsimp -implicitDefEqProofs [avCt, cCt, spCt1, hd, hd2, hd4, hd5, h64, hx, hP, hH, hC, hS, he1]; rfl) ?_)
                | refine seg_fin ?_
                | refine seg_pan ?_
                | refine seg_both ?_ ?_
                | refine seg_case (fun x h => ?_) (fun h => ?_)
                | refine seg_gate (fun h => ?_) (fun h => ?_)
                | refine seg_need ?_ ?_
                | refine wp_assoc ?_ | refine wp_skipS ?_ | refine wp_retS ?_ | refine wp_exitS ?_ | refine wp_dropS (wp_eqT (by simp -dsimp -implicitDefEqProofs; rfl) ?_) | refine wp_sealS (by simp -dsimp -implicitDefEqProofs; rfl) ?_ | refine wp_seal (by simp -dsimp -implicitDefEqProofs; rfl) ?_ | refine wp_pack_out ?_ | refine wp_blockS ?_ | refine wp_skip' ?_ | refine wp_ret' ?_ | refine wp_exit' ?_ | refine wp_drop (wp_eqT (by simp -dsimp -implicitDefEqProofs; rfl) ?_) | refine wp_block' ?_
                | refine wp_condVS (by simp -dsimp -implicitDefEqProofs; rfl) ?_
                | refine wp_condV (by simp -dsimp -implicitDefEqProofs; rfl) ?_
                | refine cond_t ?_ | refine cond_f ?_ | refine cond_v (fun h => ?_) (fun h => ?_)
                | refine post_then ?_ | refine post_thenE ?_ | refine post_thenP ?_ | refine post_blkP ?_ | refine post_thenR ?_ | refine post_blkN ?_ | refine post_blkE ?_ | refine post_blkF rfl ?_ | refine post_blkR ?_
                | refine seg_eval (by simp -dsimp -implicitDefEqProofs [avCt, cCt, spCt1, hd, hd2, hd4, hd5, h64, hx, hP, hH, hC, hS, he1]; rfl) ?_
              refine wp_drawsR (fun ts mm => ts = [(1, .fsl 3 (ms.map avCt)), (2, .fptr (.agg [.v (.int .i64 v), .v (.int .u16 (m : Nat))]) 0), (5, .ptr 0 0 0), (6, .v (.int .i64 (sizeS m : Nat))), (7, .ptr 1 0 0), (8, .v (.bool false)), (9, .v (.int .i64 i)), (10, .ptr 2 0 0), (11, .v (.int .i64 e))] ∧ mm = [.var [.v (.int .i64 v), .v (.int .u16 (m : Nat)), .v (.slice none 0 0)], .var [.v (.bool ca), .v (.int .u8 ci)], .var [.v (.int .i64 v), .v (.int .u16 (m : Nat)), .fsl 3 []]]) ?_ ?_
              · intro W hW
                repeat' with_reducible first
                  | refine wp_regionS (seg_eval (by simp -dsimp -implicitDefEqProofs [avCt, cCt, spCt1, hd, hd2, hd4, hd5, h64, hx, hP, hH, hC, hS, he1]; rfl) ?_)
                  | refine wp_region (seg_eval (by simp -dsimp -implicitDefEqProofs [avCt, cCt, spCt1, hd, hd2, hd4, hd5, h64, hx, hP, hH, hC, hS, he1]; rfl) ?_)
                  | refine wp_drawsS (seg_eval (by simp -dsimp -implicitDefEqProofs [avCt, cCt, spCt1, hd, hd2, hd4, hd5, h64, hx, hP, hH, hC, hS, he1]; rfl) ?_)
                  | refine wp_draws (seg_eval (by simp -dsimp -implicitDefEqProofs [avCt, cCt, spCt1, hd, hd2, hd4, hd5, h64, hx, hP, hH, hC, hS, he1]; rfl) ?_)
                  | refine seg_fin ?_
                  | refine seg_pan ?_
                  | refine seg_both ?_ ?_
                  | refine seg_case (fun x h => ?_) (fun h => ?_)
                  | refine seg_gate (fun h => ?_) (fun h => ?_)
                  | refine seg_need ?_ ?_
                  | refine wp_assoc ?_ | refine wp_skipS ?_ | refine wp_retS ?_ | refine wp_exitS ?_ | refine wp_dropS (wp_eqT (by simp -dsimp -implicitDefEqProofs; rfl) ?_) | refine wp_sealS (by simp -dsimp -implicitDefEqProofs; rfl) ?_ | refine wp_seal (by simp -dsimp -implicitDefEqProofs; rfl) ?_ | refine wp_pack_out ?_ | refine wp_blockS ?_ | refine wp_skip' ?_ | refine wp_ret' ?_ | refine wp_exit' ?_ | refine wp_drop (wp_eqT (by simp -dsimp -implicitDefEqProofs; rfl) ?_) | refine wp_block' ?_
                  | refine wp_condVS (by simp -dsimp -implicitDefEqProofs; rfl) ?_
                  | refine wp_condV (by simp -dsimp -implicitDefEqProofs; rfl) ?_
                  | refine cond_t ?_ | refine cond_f ?_ | refine cond_v (fun h => ?_) (fun h => ?_)
                  | refine post_then ?_ | refine post_thenE ?_ | refine post_thenP ?_ | refine post_blkP ?_ | refine post_thenR ?_ | refine post_blkN ?_ | refine post_blkE ?_ | refine post_blkF rfl ?_ | refine post_blkR ?_
                  | refine seg_eval (by simp -dsimp -implicitDefEqProofs [avCt, cCt, spCt1, hd, hd2, hd4, hd5, h64, hx, hP, hH, hC, hS, he1]; rfl) ?_
                all_goals first
                  | omega
                  | exact hW _ _ ⟨[], [0, 1, 2], rfl, rfl, by simp [avCt, cCt], by first | (simp; done) | (simp [hl0]; done)⟩
                  | trace_state
              rintro ts mm ⟨rfl, rfl⟩
              repeat' with_reducible first
                | refine wp_regionS (seg_eval (by simp -dsimp -implicitDefEqProofs [avCt, cCt, spCt1, hd, hd2, hd4, hd5, h64, hx, hP, hH, hC, hS, he1]; rfl) ?_)
                | refine wp_region (seg_eval (by simp -dsimp -implicitDefEqProofs [avCt, cCt, spCt1, hd, hd2, hd4, hd5, h64, hx, hP, hH, hC, hS, he1]; rfl) ?_)
                | refine seg_fin ?_
                | refine seg_pan ?_
                | refine seg_both ?_ ?_
                | refine seg_case (fun x h => ?_) (fun h => ?_)
                | refine seg_gate (fun h => ?_) (fun h => ?_)
                | refine seg_need ?_ ?_
                | refine wp_assoc ?_ | refine wp_skipS ?_ | refine wp_retS ?_ | refine wp_exitS ?_ | refine wp_dropS (wp_eqT (by simp -dsimp -implicitDefEqProofs; rfl) ?_) | refine wp_sealS (by simp -dsimp -implicitDefEqProofs; rfl) ?_ | refine wp_seal (by simp -dsimp -implicitDefEqProofs; rfl) ?_ | refine wp_pack_out ?_ | refine wp_blockS ?_ | refine wp_skip' ?_ | refine wp_ret' ?_ | refine wp_exit' ?_ | refine wp_drop (wp_eqT (by simp -dsimp -implicitDefEqProofs; rfl) ?_) | refine wp_block' ?_
                | refine wp_condVS (by simp -dsimp -implicitDefEqProofs; rfl) ?_
                | refine wp_condV (by simp -dsimp -implicitDefEqProofs; rfl) ?_
                | refine cond_t ?_ | refine cond_f ?_ | refine cond_v (fun h => ?_) (fun h => ?_)
                | refine post_then ?_ | refine post_thenE ?_ | refine post_thenP ?_ | refine post_blkP ?_ | refine post_thenR ?_ | refine post_blkN ?_ | refine post_blkE ?_ | refine post_blkF rfl ?_ | refine post_blkR ?_
                | refine seg_eval (by simp -dsimp -implicitDefEqProofs [avCt, cCt, spCt1, hd, hd2, hd4, hd5, h64, hx, hP, hH, hC, hS, he1]; rfl) ?_
              refine wp_drawsRS (fun ts mm => ts = [(1, .fsl 3 (ms.map avCt)), (2, .fptr (.agg [.v (.int .i64 v), .v (.int .u16 (m : Nat))]) 0), (5, .ptr 0 0 0), (6, .v (.int .i64 (sizeS m : Nat))), (7, .ptr 1 0 0), (8, .v (.bool false)), (9, .v (.int .i64 i)), (10, .ptr 2 0 0), (52, .v (.bool false))] ∧ mm = [.var [.v (.int .i64 v), .v (.int .u16 (m : Nat)), .v (.slice none 0 0)], .var [.v (.bool ca), .v (.int .u8 ci)], .var [.v (.int .i64 v), .v (.int .u16 (m : Nat)), .fsl 3 []]]) ?_ ?_
              · intro W hW
                repeat' with_reducible first
                  | refine wp_regionS (seg_eval (by simp -dsimp -implicitDefEqProofs [avCt, cCt, spCt1, hd, hd2, hd4, hd5, h64, hx, hP, hH, hC, hS, he1]; rfl) ?_)
                  | refine wp_region (seg_eval (by simp -dsimp -implicitDefEqProofs [avCt, cCt, spCt1, hd, hd2, hd4, hd5, h64, hx, hP, hH, hC, hS, he1]; rfl) ?_)
                  | refine wp_drawsS (seg_eval (by simp -dsimp -implicitDefEqProofs [avCt, cCt, spCt1, hd, hd2, hd4, hd5, h64, hx, hP, hH, hC, hS, he1]; rfl) ?_)
                  | refine wp_draws (seg_eval (by simp -dsimp -implicitDefEqProofs [avCt, cCt, spCt1, hd, hd2, hd4, hd5, h64, hx, hP, hH, hC, hS, he1]; rfl) ?_)
                  | refine seg_fin ?_
                  | refine seg_pan ?_
                  | refine seg_both ?_ ?_
                  | refine seg_case (fun x h => ?_) (fun h => ?_)
                  | refine seg_gate (fun h => ?_) (fun h => ?_)
                  | refine seg_need ?_ ?_
                  | refine wp_assoc ?_ | refine wp_skipS ?_ | refine wp_retS ?_ | refine wp_exitS ?_ | refine wp_dropS (wp_eqT (by simp -dsimp -implicitDefEqProofs; rfl) ?_) | refine wp_sealS (by simp -dsimp -implicitDefEqProofs; rfl) ?_ | refine wp_seal (by simp -dsimp -implicitDefEqProofs; rfl) ?_ | refine wp_pack_out ?_ | refine wp_blockS ?_ | refine wp_skip' ?_ | refine wp_ret' ?_ | refine wp_exit' ?_ | refine wp_drop (wp_eqT (by simp -dsimp -implicitDefEqProofs; rfl) ?_) | refine wp_block' ?_
                  | refine wp_condVS (by simp -dsimp -implicitDefEqProofs; rfl) ?_
                  | refine wp_condV (by simp -dsimp -implicitDefEqProofs; rfl) ?_
                  | refine cond_t ?_ | refine cond_f ?_ | refine cond_v (fun h => ?_) (fun h => ?_)
                  | refine post_then ?_ | refine post_thenE ?_ | refine post_thenP ?_ | refine post_blkP ?_ | refine post_thenR ?_ | refine post_blkN ?_ | refine post_blkE ?_ | refine post_blkF rfl ?_ | refine post_blkR ?_
                  | refine seg_eval (by simp -dsimp -implicitDefEqProofs [avCt, cCt, spCt1, hd, hd2, hd4, hd5, h64, hx, hP, hH, hC, hS, he1]; rfl) ?_
                all_goals first
                  | omega
                  | exact hW _ _ ⟨[], [0, 1, 2], rfl, rfl, by simp [avCt, cCt], by simp⟩
                  | trace_state
              rintro ts mm ⟨rfl, rfl⟩
              repeat' with_reducible first
                | refine wp_regionS (seg_eval (by simp -dsimp -implicitDefEqProofs [avCt, cCt, spCt1, hd, hd2, hd4, hd5, h64, hx, hP, hH, hC, hS, he1]; rfl) ?_)
                | refine wp_region (seg_eval (by simp -dsimp -implicitDefEqProofs [avCt, cCt, spCt1, hd, hd2, hd4, hd5, h64, hx, hP, hH, hC, hS, he1]; rfl) ?_)
                | refine wp_drawsS (seg_eval (by simp -dsimp -implicitDefEqProofs [avCt, cCt, spCt1, hd, hd2, hd4, hd5, h64, hx, hP, hH, hC, hS, he1]; rfl) ?_)
                | refine wp_draws (seg_eval (by simp -dsimp -implicitDefEqProofs [avCt, cCt, spCt1, hd, hd2, hd4, hd5, h64, hx, hP, hH, hC, hS, he1]; rfl) ?_)
                | refine seg_fin ?_
                | refine seg_pan ?_
                | refine seg_both ?_ ?_
                | refine seg_case (fun x h => ?_) (fun h => ?_)
                | refine seg_gate (fun h => ?_) (fun h => ?_)
                | refine seg_need ?_ ?_
                | refine wp_assoc ?_ | refine wp_skipS ?_ | refine wp_retS ?_ | refine wp_exitS ?_ | refine wp_dropS (wp_eqT (by simp -dsimp -implicitDefEqProofs; rfl) ?_) | refine wp_sealS (by simp -dsimp -implicitDefEqProofs; rfl) ?_ | refine wp_seal (by simp -dsimp -implicitDefEqProofs; rfl) ?_ | refine wp_pack_out ?_ | refine wp_blockS ?_ | refine wp_skip' ?_ | refine wp_ret' ?_ | refine wp_exit' ?_ | refine wp_drop (wp_eqT (by simp -dsimp -implicitDefEqProofs; rfl) ?_) | refine wp_block' ?_
                | refine wp_condVS (by simp -dsimp -implicitDefEqProofs; rfl) ?_
                | refine wp_condV (by simp -dsimp -implicitDefEqProofs; rfl) ?_
                | refine cond_t ?_ | refine cond_f ?_ | refine cond_v (fun h => ?_) (fun h => ?_)
                | refine post_then ?_ | refine post_thenE ?_ | refine post_thenP ?_ | refine post_blkP ?_ | refine post_thenR ?_ | refine post_blkN ?_ | refine post_blkE ?_ | refine post_blkF rfl ?_ | refine post_blkR ?_
                | refine seg_eval (by simp -dsimp -implicitDefEqProofs [avCt, cCt, spCt1, hd, hd2, hd4, hd5, h64, hx, hP, hH, hC, hS, he1]; rfl) ?_
              all_goals first
                | omega
                | exact ⟨j - 1, by omega, [], [0, 1], rfl, rfl, i + 1, l', ca', ci', false, by omega, by omega, by omega, hpm, hinv', hch', by simp, .inr (by simp [hl0])⟩
                | trace_state
            · skip
              repeat' with_reducible first
                | refine wp_regionS (seg_eval (by simp -dsimp -implicitDefEqProofs [avCt, cCt, spCt1, hd, hd2, hd4, hd5, h64, hx, hP, hH, hC, hS, he1]; rfl) ?_)
                | refine wp_region (seg_eval (by simp -dsimp -implicitDefEqProofs [avCt, cCt, spCt1, hd, hd2, hd4, hd5, h64, hx, hP, hH, hC, hS, he1]; rfl) ?_)
                | refine seg_fin ?_
                | refine seg_pan ?_
                | refine seg_both ?_ ?_
                | refine seg_case (fun x h => ?_) (fun h => ?_)
                | refine seg_gate (fun h => ?_) (fun h => ?_)
                | refine seg_need ?_ ?_
                | refine wp_assoc ?_ | refine wp_skipS ?_ | refine wp_retS ?_ | refine wp_exitS ?_ | refine wp_dropS (wp_eqT (by simp -dsimp -implicitDefEqProofs; rfl) ?_) | refine wp_sealS (by simp -dsimp -implicitDefEqProofs; rfl) ?_ | refine wp_seal (by simp -dsimp -implicitDefEqProofs; rfl) ?_ | refine wp_pack_out ?_ | refine wp_blockS ?_ | refine wp_skip' ?_ | refine wp_ret' ?_ | refine wp_exit' ?_ | refine wp_drop (wp_eqT (by simp -dsimp -implicitDefEqProofs; rfl) ?_) | refine wp_block' ?_
                | refine wp_condVS (by simp -dsimp -implicitDefEqProofs; rfl) ?_
                | refine wp_condV (by simp -dsimp -implicitDefEqProofs; rfl) ?_
                | refine cond_t ?_ | refine cond_f ?_ | refine cond_v (fun h => ?_) (fun h => ?_)
                | refine post_then ?_ | refine post_thenE ?_ | refine post_thenP ?_ | refine post_blkP ?_ | refine post_thenR ?_ | refine post_blkN ?_ | refine post_blkE ?_ | refine post_blkF rfl ?_ | refine post_blkR ?_
                | refine seg_eval (by simp -dsimp -implicitDefEqProofs [avCt, cCt, spCt1, hd, hd2, hd4, hd5, h64, hx, hP, hH, hC, hS, he1]; rfl) ?_
              refine wp_drawsR (fun ts mm => ts = [(1, .fsl 3 (ms.map avCt)), (2, .fptr (.agg [.v (.int .i64 v), .v (.int .u16 (m : Nat))]) 0), (5, .ptr 0 0 0), (6, .v (.int .i64 (sizeS m : Nat))), (7, .ptr 1 0 0), (8, .v (.bool false)), (9, .v (.int .i64 i)), (10, .ptr 2 0 0), (11, .v (.int .i64 e))] ∧ mm = [.var [.v (.int .i64 v), .v (.int .u16 (m : Nat)), .fsl 3 (l'.map avCt)], .var [.v (.bool ca), .v (.int .u8 ci)], .var [.v (.int .i64 v), .v (.int .u16 (m : Nat)), .fsl 3 (l'.map avCt)]]) ?_ ?_
              · intro W hW
                repeat' with_reducible first
                  | refine wp_regionS (seg_eval (by simp -dsimp -implicitDefEqProofs [avCt, cCt, spCt1, hd, hd2, hd4, hd5, h64, hx, hP, hH, hC, hS, he1]; rfl) ?_)
                  | refine wp_region (seg_eval (by simp -dsimp -implicitDefEqProofs [avCt, cCt, spCt1, hd, hd2, hd4, hd5, h64, hx, hP, hH, hC, hS, he1]; rfl) ?_)
                  | refine wp_drawsS (seg_eval (by simp -dsimp -implicitDefEqProofs [avCt, cCt, spCt1, hd, hd2, hd4, hd5, h64, hx, hP, hH, hC, hS, he1]; rfl) ?_)
                  | refine wp_draws (seg_eval (by simp -dsimp -implicitDefEqProofs [avCt, cCt, spCt1, hd, hd2, hd4, hd5, h64, hx, hP, hH, hC, hS, he1]; rfl) ?_)
                  | refine seg_fin ?_
                  | refine seg_pan ?_
                  | refine seg_both ?_ ?_
                  | refine seg_case (fun x h => ?_) (fun h => ?_)
                  | refine seg_gate (fun h => ?_) (fun h => ?_)
                  | refine seg_need ?_ ?_
                  | refine wp_assoc ?_ | refine wp_skipS ?_ | refine wp_retS ?_ | refine wp_exitS ?_ | refine wp_dropS (wp_eqT (by simp -dsimp -implicitDefEqProofs; rfl) ?_) | refine wp_sealS (by simp -dsimp -implicitDefEqProofs; rfl) ?_ | refine wp_seal (by simp -dsimp -implicitDefEqProofs; rfl) ?_ | refine wp_pack_out ?_ | refine wp_blockS ?_ | refine wp_skip' ?_ | refine wp_ret' ?_ | refine wp_exit' ?_ | refine wp_drop (wp_eqT (by simp -dsimp -implicitDefEqProofs; rfl) ?_) | refine wp_block' ?_
                  | refine wp_condVS (by simp -dsimp -implicitDefEqProofs; rfl) ?_
                  | refine wp_condV (by simp -dsimp -implicitDefEqProofs; rfl) ?_
                  | refine cond_t ?_ | refine cond_f ?_ | refine cond_v (fun h => ?_) (fun h => ?_)
                  | refine post_then ?_ | refine post_thenE ?_ | refine post_thenP ?_ | refine post_blkP ?_ | refine post_thenR ?_ | refine post_blkN ?_ | refine post_blkE ?_ | refine post_blkF rfl ?_ | refine post_blkR ?_
                  | refine seg_eval (by simp -dsimp -implicitDefEqProofs [avCt, cCt, spCt1, hd, hd2, hd4, hd5, h64, hx, hP, hH, hC, hS, he1]; rfl) ?_
                all_goals first
                  | omega
                  | exact hW _ _ ⟨[], [0, 1, 2], rfl, rfl, by simp [avCt, cCt], by first | (simp; done) | (simp [hl0]; done)⟩
                  | trace_state
              rintro ts mm ⟨rfl, rfl⟩
              repeat' with_reducible first
                | refine wp_regionS (seg_eval (by simp -dsimp -implicitDefEqProofs [avCt, cCt, spCt1, hd, hd2, hd4, hd5, h64, hx, hP, hH, hC, hS, he1]; rfl) ?_)
                | refine wp_region (seg_eval (by simp -dsimp -implicitDefEqProofs [avCt, cCt, spCt1, hd, hd2, hd4, hd5, h64, hx, hP, hH, hC, hS, he1]; rfl) ?_)
                | refine seg_fin ?_
                | refine seg_pan ?_
                | refine seg_both ?_ ?_
                | refine seg_case (fun x h => ?_) (fun h => ?_)
                | refine seg_gate (fun h => ?_) (fun h => ?_)
                | refine seg_need ?_ ?_
                | refine wp_assoc ?_ | refine wp_skipS ?_ | refine wp_retS ?_ | refine wp_exitS ?_ | refine wp_dropS (wp_eqT (by simp -dsimp -implicitDefEqProofs; rfl) ?_) | refine wp_sealS (by simp -dsimp -implicitDefEqProofs; rfl) ?_ | refine wp_seal (by simp -dsimp -implicitDefEqProofs; rfl) ?_ | refine wp_pack_out ?_ | refine wp_blockS ?_ | refine wp_skip' ?_ | refine wp_ret' ?_ | refine wp_exit' ?_ | refine wp_drop (wp_eqT (by simp -dsimp -implicitDefEqProofs; rfl) ?_) | refine wp_block' ?_
                | refine wp_condVS (by simp -dsimp -implicitDefEqProofs; rfl) ?_
                | refine wp_condV (by simp -dsimp -implicitDefEqProofs; rfl) ?_
                | refine cond_t ?_ | refine cond_f ?_ | refine cond_v (fun h => ?_) (fun h => ?_)
                | refine post_then ?_ | refine post_thenE ?_ | refine post_thenP ?_ | refine post_blkP ?_ | refine post_thenR ?_ | refine post_blkN ?_ | refine post_blkE ?_ | refine post_blkF rfl ?_ | refine post_blkR ?_
                | refine seg_eval (by simp -dsimp -implicitDefEqProofs [avCt, cCt, spCt1, hd, hd2, hd4, hd5, h64, hx, hP, hH, hC, hS, he1]; rfl) ?_
              refine wp_drawsRS (fun ts mm => ts = [(1, .fsl 3 (ms.map avCt)), (2, .fptr (.agg [.v (.int .i64 v), .v (.int .u16 (m : Nat))]) 0), (5, .ptr 0 0 0), (6, .v (.int .i64 (sizeS m : Nat))), (7, .ptr 1 0 0), (8, .v (.bool false)), (9, .v (.int .i64 i)), (10, .ptr 2 0 0), (52, .v (.bool false))] ∧ mm = [.var [.v (.int .i64 v), .v (.int .u16 (m : Nat)), .fsl 3 (l'.map avCt)], .var [.v (.bool ca), .v (.int .u8 ci)], .var [.v (.int .i64 v), .v (.int .u16 (m : Nat)), .fsl 3 (l'.map avCt)]]) ?_ ?_
              · intro W hW
                repeat' with_reducible first
                  | refine wp_regionS (seg_eval (by simp -dsimp -implicitDefEqProofs [avCt, cCt, spCt1, hd, hd2, hd4, hd5, h64, hx, hP, hH, hC, hS, he1]; rfl) ?_)
                  | refine wp_region (seg_eval (by simp -dsimp -implicitDefEqProofs [avCt, cCt, spCt1, hd, hd2, hd4, hd5, h64, hx, hP, hH, hC, hS, he1]; rfl) ?_)
                  | refine wp_drawsS (seg_eval (by simp -dsimp -implicitDefEqProofs [avCt, cCt, spCt1, hd, hd2, hd4, hd5, h64, hx, hP, hH, hC, hS, he1]; rfl) ?_)
                  | refine wp_draws (seg_eval (by simp -dsimp -implicitDefEqProofs [avCt, cCt, spCt1, hd, hd2, hd4, hd5, h64, hx, hP, hH, hC, hS, he1]; rfl) ?_)
                  | refine seg_fin ?_
                  | refine seg_pan ?_
                  | refine seg_both ?_ ?_
                  | refine seg_case (fun x h => ?_) (fun h => ?_)
                  | refine seg_gate (fun h => ?_) (fun h => ?_)
                  | refine seg_need ?_ ?_
                  | refine wp_assoc ?_ | refine wp_skipS ?_ | refine wp_retS ?_ | refine wp_exitS ?_ | refine wp_dropS (wp_eqT (by simp -dsimp -implicitDefEqProofs; rfl) ?_) | refine wp_sealS (by simp -dsimp -implicitDefEqProofs; rfl) ?_ | refine wp_seal (by simp -dsimp -implicitDefEqProofs; rfl) ?_ | refine wp_pack_out ?_ | refine wp_blockS ?_ | refine wp_skip' ?_ | refine wp_ret' ?_ | refine wp_exit' ?_ | refine wp_drop (wp_eqT (by simp -dsimp -implicitDefEqProofs; rfl) ?_) | refine wp_block' ?_
                  | refine wp_condVS (by simp -dsimp -implicitDefEqProofs; rfl) ?_
                  | refine wp_condV (by simp -dsimp -implicitDefEqProofs; rfl) ?_
                  | refine cond_t ?_ | refine cond_f ?_ | refine cond_v (fun h => ?_) (fun h => ?_)
                  | refine post_then ?_ | refine post_thenE ?_ | refine post_thenP ?_ | refine post_blkP ?_ | refine post_thenR ?_ | refine post_blkN ?_ | refine post_blkE ?_ | refine post_blkF rfl ?_ | refine post_blkR ?_
                  | refine seg_eval (by simp -dsimp -implicitDefEqProofs [avCt, cCt, spCt1, hd, hd2, hd4, hd5, h64, hx, hP, hH, hC, hS, he1]; rfl) ?_
                all_goals first
                  | omega
                  | exact hW _ _ ⟨[], [0, 1, 2], rfl, rfl, by simp [avCt, cCt], by simp⟩
                  | trace_state
              rintro ts mm ⟨rfl, rfl⟩
              repeat' with_reducible first
                | refine wp_regionS (seg_eval (by simp -dsimp -implicitDefEqProofs [avCt, cCt, spCt1, hd, hd2, hd4, hd5, h64, hx, hP, hH, hC, hS, he1]; rfl) ?_)
                | refine wp_region (seg_eval (by simp -dsimp -implicitDefEqProofs [avCt, cCt, spCt1, hd, hd2, hd4, hd5, h64, hx, hP, hH, hC, hS, he1]; rfl) ?_)
                | refine wp_drawsS (seg_eval (by simp -dsimp -implicitDefEqProofs [avCt, cCt, spCt1, hd, hd2, hd4, hd5, h64, hx, hP, hH, hC, hS, he1]; rfl) ?_)
                | refine wp_draws (seg_eval (by simp -dsimp -implicitDefEqProofs [avCt, cCt, spCt1, hd, hd2, hd4, hd5, h64, hx, hP, hH, hC, hS, he1]; rfl) ?_)
                | refine seg_fin ?_
                | refine seg_pan ?_
                | refine seg_both ?_ ?_
                | refine seg_case (fun x h => ?_) (fun h => ?_)
                | refine seg_gate (fun h => ?_) (fun h => ?_)
                | refine seg_need ?_ ?_
                | refine wp_assoc ?_ | refine wp_skipS ?_ | refine wp_retS ?_ | refine wp_exitS ?_ | refine wp_dropS (wp_eqT (by simp -dsimp -implicitDefEqProofs; rfl) ?_) | refine wp_sealS (by simp -dsimp -implicitDefEqProofs; rfl) ?_ | refine wp_seal (by simp -dsimp -implicitDefEqProofs; rfl) ?_ | refine wp_pack_out ?_ | refine wp_blockS ?_ | refine wp_skip' ?_ | refine wp_ret' ?_ | refine wp_exit' ?_ | refine wp_drop (wp_eqT (by simp -dsimp -implicitDefEqProofs; rfl) ?_) | refine wp_block' ?_
                | refine wp_condVS (by simp -dsimp -implicitDefEqProofs; rfl) ?_
                | refine wp_condV (by simp -dsimp -implicitDefEqProofs; rfl) ?_
                | refine cond_t ?_ | refine cond_f ?_ | refine cond_v (fun h => ?_) (fun h => ?_)
                | refine post_then ?_ | refine post_thenE ?_ | refine post_thenP ?_ | refine post_blkP ?_ | refine post_thenR ?_ | refine post_blkN ?_ | refine post_blkE ?_ | refine post_blkF rfl ?_ | refine post_blkR ?_
                | refine seg_eval (by simp -dsimp -implicitDefEqProofs [avCt, cCt, spCt1, hd, hd2, hd4, hd5, h64, hx, hP, hH, hC, hS, he1]; rfl) ?_
              all_goals first
                | omega
                | exact ⟨j - 1, by omega, [], [0, 1], rfl, rfl, i + 1, l', ca', ci', false, by omega, by omega, by omega, hpm, hinv', hch', by simp, .inr (by simp)⟩
                | trace_state
        · obtain ⟨ha1, ha2, ha3, ha4⟩ := happ rfl
          have ha5 : ((applyV v m ca' ci'.toNat).2 != 0) = false := by simp [ha1]
          have ha6 : decide (((sizeS (forC v m l' ca' ci') : Nat) : Int) < echoesS (sizeS m)) = false := by rw [decide_eq_false_iff_not]; omega
          rcases hee with rfl | ⟨he, rfl⟩
          · rcases hmm with ⟨hl0, rfl⟩ | rfl
            · rw [hl0] at hP
              simp only [List.map_nil] at hP
              repeat' with_reducible first
                | refine wp_regionS (seg_eval (by simp -dsimp -implicitDefEqProofs [avCt, cCt, spCt1, hd, hd2, hd4, hd5, h64, hx, hP, hH, hm, hml, ha2, ha3, ha5, ha6, hF, hFl, spApplyV, spSize, spEchoes]; rfl) ?_)
                | refine wp_region (seg_eval (by simp -dsimp -implicitDefEqProofs [avCt, cCt, spCt1, hd, hd2, hd4, hd5, h64, hx, hP, hH, hm, hml, ha2, ha3, ha5, ha6, hF, hFl, spApplyV, spSize, spEchoes]; rfl) ?_)
                | refine seg_fin ?_
                | refine seg_pan ?_
                | refine seg_both ?_ ?_
                | refine seg_case (fun x h => ?_) (fun h => ?_)
                | refine seg_gate (fun h => ?_) (fun h => ?_)
                | refine seg_need ?_ ?_
                | refine wp_assoc ?_ | refine wp_skipS ?_ | refine wp_retS ?_ | refine wp_exitS ?_ | refine wp_dropS (wp_eqT (by simp -dsimp -implicitDefEqProofs; rfl) ?_) | refine wp_sealS (by simp -dsimp -implicitDefEqProofs; rfl) ?_ | refine wp_seal (by simp -dsimp -implicitDefEqProofs; rfl) ?_ | refine wp_pack_out ?_ | refine wp_blockS ?_ | refine wp_skip' ?_ | refine wp_ret' ?_ | refine wp_exit' ?_ | refine wp_drop (wp_eqT (by simp -dsimp -implicitDefEqProofs; rfl) ?_) | refine wp_block' ?_
                | refine wp_condVS (by simp -dsimp -implicitDefEqProofs; rfl) ?_
                | refine wp_condV (by simp -dsimp -implicitDefEqProofs; rfl) ?_
                | refine cond_t ?_ | refine cond_f ?_ | refine cond_v (fun h => ?_) (fun h => ?_)
                | refine post_then ?_ | refine post_thenE ?_ | refine post_thenP ?_ | refine post_blkP ?_ | refine post_thenR ?_ | refine post_blkN ?_ | refine post_blkE ?_ | refine post_blkF rfl ?_ | refine post_blkR ?_
                | refine seg_eval (by simp -dsimp -implicitDefEqProofs [avCt, cCt, spCt1, hd, hd2, hd4, hd5, h64, hx, hP, hH, hm, hml, ha2, ha3, ha5, ha6, hF, hFl, spApplyV, spSize, spEchoes]; rfl) ?_
              refine wp_drawsR (fun ts mm => ts = [(1, .fsl 3 (ms.map avCt)), (2, .fptr (.agg [.v (.int .i64 v), .v (.int .u16 (m : Nat))]) 0), (5, .ptr 0 0 0), (6, .v (.int .i64 (sizeS m : Nat))), (7, .ptr 1 0 0), (8, .v (.bool false)), (9, .v (.int .i64 i)), (10, .ptr 2 0 0), (11, .v (.int .i64 0))] ∧ mm = [.var [.v (.int .i64 v), .v (.int .u16 (m : Nat)), .v (.slice none 0 0)], .var [.v (.bool ca), .v (.int .u8 ci)], .var [.v (.int .i64 v), .v (.int .u16 (m : Nat)), .fsl 3 (l'.map avCt)]]) ?_ ?_
              · intro W hW
                repeat' with_reducible first
                  | refine wp_regionS (seg_eval (by simp -dsimp -implicitDefEqProofs [avCt, cCt, spCt1, hd, hd2, hd4, hd5, h64, hx, hP, hH, hm, hml, ha2, ha3, ha5, ha6, hF, hFl, spApplyV, spSize, spEchoes]; rfl) ?_)
                  | refine wp_region (seg_eval (by simp -dsimp -implicitDefEqProofs [avCt, cCt, spCt1, hd, hd2, hd4, hd5, h64, hx, hP, hH, hm, hml, ha2, ha3, ha5, ha6, hF, hFl, spApplyV, spSize, spEchoes]; rfl) ?_)
                  | refine wp_drawsS (seg_eval (by simp -dsimp -implicitDefEqProofs [avCt, cCt, spCt1, hd, hd2, hd4, hd5, h64, hx, hP, hH, hm, hml, ha2, ha3, ha5, ha6, hF, hFl, spApplyV, spSize, spEchoes]; rfl) ?_)
                  | refine wp_draws (seg_eval (by simp -dsimp -implicitDefEqProofs [avCt, cCt, spCt1, hd, hd2, hd4, hd5, h64, hx, hP, hH, hm, hml, ha2, ha3, ha5, ha6, hF, hFl, spApplyV, spSize, spEchoes]; rfl) ?_)
                  | refine seg_fin ?_
                  | refine seg_pan ?_
                  | refine seg_both ?_ ?_
                  | refine seg_case (fun x h => ?_) (fun h => ?_)
                  | refine seg_gate (fun h => ?_) (fun h => ?_)
                  | refine seg_need ?_ ?_
                  | refine wp_assoc ?_ | refine wp_skipS ?_ | refine wp_retS ?_ | refine wp_exitS ?_ | refine wp_dropS (wp_eqT (by simp -dsimp -implicitDefEqProofs; rfl) ?_) | refine wp_sealS (by simp -dsimp -implicitDefEqProofs; rfl) ?_ | refine wp_seal (by simp -dsimp -implicitDefEqProofs; rfl) ?_ | refine wp_pack_out ?_ | refine wp_blockS ?_ | refine wp_skip' ?_ | refine wp_ret' ?_ | refine wp_exit' ?_ | refine wp_drop (wp_eqT (by simp -dsimp -implicitDefEqProofs; rfl) ?_) | refine wp_block' ?_
                  | refine wp_condVS (by simp -dsimp -implicitDefEqProofs; rfl) ?_
                  | refine wp_condV (by simp -dsimp -implicitDefEqProofs; rfl) ?_
                  | refine cond_t ?_ | refine cond_f ?_ | refine cond_v (fun h => ?_) (fun h => ?_)
                  | refine post_then ?_ | refine post_thenE ?_ | refine post_thenP ?_ | refine post_blkP ?_ | refine post_thenR ?_ | refine post_blkN ?_ | refine post_blkE ?_ | refine post_blkF rfl ?_ | refine post_blkR ?_
                  | refine seg_eval (by simp -dsimp -implicitDefEqProofs [avCt, cCt, spCt1, hd, hd2, hd4, hd5, h64, hx, hP, hH, hm, hml, ha2, ha3, ha5, ha6, hF, hFl, spApplyV, spSize, spEchoes]; rfl) ?_
                all_goals first
                  | omega
                  | exact hW _ _ ⟨[], [0, 1, 2], rfl, rfl, by simp [avCt, cCt], by first | (simp; done) | (simp [hl0]; done)⟩
                  | trace_state
              rintro ts mm ⟨rfl, rfl⟩
              repeat' with_reducible first
                | refine wp_regionS (seg_eval (by simp -dsimp -implicitDefEqProofs [avCt, cCt, spCt1, hd, hd2, hd4, hd5, h64, hx, hP, hH, hm, hml, ha2, ha3, ha5, ha6, hF, hFl, spApplyV, spSize, spEchoes]; rfl) ?_)
                | refine wp_region (seg_eval (by simp -dsimp -implicitDefEqProofs [avCt, cCt, spCt1, hd, hd2, hd4, hd5, h64, hx, hP, hH, hm, hml, ha2, ha3, ha5, ha6, hF, hFl, spApplyV, spSize, spEchoes]; rfl) ?_)
                | refine seg_fin ?_
                | refine seg_pan ?_
                | refine seg_both ?_ ?_
                | refine seg_case (fun x h => ?_) (fun h => ?_)
                | refine seg_gate (fun h => ?_) (fun h => ?_)
                | refine seg_need ?_ ?_
                | refine wp_assoc ?_ | refine wp_skipS ?_ | refine wp_retS ?_ | refine wp_exitS ?_ | refine wp_dropS (wp_eqT (by simp -dsimp -implicitDefEqProofs; rfl) ?_) | refine wp_sealS (by simp -dsimp -implicitDefEqProofs; rfl) ?_ | refine wp_seal (by simp -dsimp -implicitDefEqProofs; rfl) ?_ | refine wp_pack_out ?_ | refine wp_blockS ?_ | refine wp_skip' ?_ | refine wp_ret' ?_ | refine wp_exit' ?_ | refine wp_drop (wp_eqT (by simp -dsimp -implicitDefEqProofs; rfl) ?_) | refine wp_block' ?_
                | refine wp_condVS (by simp -dsimp -implicitDefEqProofs; rfl) ?_
                | refine wp_condV (by simp -dsimp -implicitDefEqProofs; rfl) ?_
                | refine cond_t ?_ | refine cond_f ?_ | refine cond_v (fun h => ?_) (fun h => ?_)
                | refine post_then ?_ | refine post_thenE ?_ | refine post_thenP ?_ | refine post_blkP ?_ | refine post_thenR ?_ | refine post_blkN ?_ | refine post_blkE ?_ | refine post_blkF rfl ?_ | refine post_blkR ?_
                | refine seg_eval (by simp -dsimp -implicitDefEqProofs [avCt, cCt, spCt1, hd, hd2, hd4, hd5, h64, hx, hP, hH, hm, hml, ha2, ha3, ha5, ha6, hF, hFl, spApplyV, spSize, spEchoes]; rfl) ?_
              refine wp_drawsRS (fun ts mm => ts = [(1, .fsl 3 (ms.map avCt)), (2, .fptr (.agg [.v (.int .i64 v), .v (.int .u16 (m : Nat))]) 0), (5, .ptr 0 0 0), (6, .v (.int .i64 (sizeS m : Nat))), (7, .ptr 1 0 0), (8, .v (.bool false)), (9, .v (.int .i64 i)), (10, .ptr 2 0 0), (52, .v (.bool false))] ∧ mm = [.var [.v (.int .i64 v), .v (.int .u16 (m : Nat)), .v (.slice none 0 0)], .var [.v (.bool ca), .v (.int .u8 ci)], .var [.v (.int .i64 v), .v (.int .u16 (m : Nat)), .fsl 3 (l'.map avCt)]]) ?_ ?_
              · intro W hW
                repeat' with_reducible first
                  | refine wp_regionS (seg_eval (by simp -dsimp -implicitDefEqProofs [avCt, cCt, spCt1, hd, hd2, hd4, hd5, h64, hx, hP, hH, hm, hml, ha2, ha3, ha5, ha6, hF, hFl, spApplyV, spSize, spEchoes]; rfl) ?_)
                  | refine wp_region (seg_eval (by simp -dsimp -implicitDefEqProofs [avCt, cCt, spCt1, hd, hd2, hd4, hd5, h64, hx, hP, hH, hm, hml, ha2, ha3, ha5, ha6, hF, hFl, spApplyV, spSize, spEchoes]; rfl) ?_)
                  | refine wp_drawsS (seg_eval (by simp -dsimp -implicitDefEqProofs [avCt, cCt, spCt1, hd, hd2, hd4, hd5, h64, hx, hP, hH, hm, hml, ha2, ha3, ha5, ha6, hF, hFl, spApplyV, spSize, spEchoes]; rfl) ?_)
                  | refine wp_draws (seg_eval (by simp -dsimp -implicitDefEqProofs [avCt, cCt, spCt1, hd, hd2, hd4, hd5, h64, hx, hP, hH, hm, hml, ha2, ha3, ha5, ha6, hF, hFl, spApplyV, spSize, spEchoes]; rfl) ?_)
                  | refine seg_fin ?_
                  | refine seg_pan ?_
                  | refine seg_both ?_ ?_
                  | refine seg_case (fun x h => ?_) (fun h => ?_)
                  | refine seg_gate (fun h => ?_) (fun h => ?_)
                  | refine seg_need ?_ ?_
                  | refine wp_assoc ?_ | refine wp_skipS ?_ | refine wp_retS ?_ | refine wp_exitS ?_ | refine wp_dropS (wp_eqT (by simp -dsimp -implicitDefEqProofs; rfl) ?_) | refine wp_sealS (by simp -dsimp -implicitDefEqProofs; rfl) ?_ | refine wp_seal (by simp -dsimp -implicitDefEqProofs; rfl) ?_ | refine wp_pack_out ?_ | refine wp_blockS ?_ | refine wp_skip' ?_ | refine wp_ret' ?_ | refine wp_exit' ?_ | refine wp_drop (wp_eqT (by simp -dsimp -implicitDefEqProofs; rfl) ?_) | refine wp_block' ?_
                  | refine wp_condVS (by simp -dsimp -implicitDefEqProofs; rfl) ?_
                  | refine wp_condV (by simp -dsimp -implicitDefEqProofs; rfl) ?_
                  | refine cond_t ?_ | refine cond_f ?_ | refine cond_v (fun h => ?_) (fun h => ?_)
                  | refine post_then ?_ | refine post_thenE ?_ | refine post_thenP ?_ | refine post_blkP ?_ | refine post_thenR ?_ | refine post_blkN ?_ | refine post_blkE ?_ | refine post_blkF rfl ?_ | refine post_blkR ?_
                  | refine seg_eval (by simp -dsimp -implicitDefEqProofs [avCt, cCt, spCt1, hd, hd2, hd4, hd5, h64, hx, hP, hH, hm, hml, ha2, ha3, ha5, ha6, hF, hFl, spApplyV, spSize, spEchoes]; rfl) ?_
                all_goals first
                  | omega
                  | exact hW _ _ ⟨[], [0, 1, 2], rfl, rfl, by simp [avCt, cCt], by simp⟩
                  | trace_state
              rintro ts mm ⟨rfl, rfl⟩
              repeat' with_reducible first
                | refine wp_regionS (seg_eval (by simp -dsimp -implicitDefEqProofs [avCt, cCt, spCt1, hd, hd2, hd4, hd5, h64, hx, hP, hH, hm, hml, ha2, ha3, ha5, ha6, hF, hFl, spApplyV, spSize, spEchoes]; rfl) ?_)
                | refine wp_region (seg_eval (by simp -dsimp -implicitDefEqProofs [avCt, cCt, spCt1, hd, hd2, hd4, hd5, h64, hx, hP, hH, hm, hml, ha2, ha3, ha5, ha6, hF, hFl, spApplyV, spSize, spEchoes]; rfl) ?_)
                | refine wp_drawsS (seg_eval (by simp -dsimp -implicitDefEqProofs [avCt, cCt, spCt1, hd, hd2, hd4, hd5, h64, hx, hP, hH, hm, hml, ha2, ha3, ha5, ha6, hF, hFl, spApplyV, spSize, spEchoes]; rfl) ?_)
                | refine wp_draws (seg_eval (by simp -dsimp -implicitDefEqProofs [avCt, cCt, spCt1, hd, hd2, hd4, hd5, h64, hx, hP, hH, hm, hml, ha2, ha3, ha5, ha6, hF, hFl, spApplyV, spSize, spEchoes]; rfl) ?_)
                | refine seg_fin ?_
                | refine seg_pan ?_
                | refine seg_both ?_ ?_
                | refine seg_case (fun x h => ?_) (fun h => ?_)
                | refine seg_gate (fun h => ?_) (fun h => ?_)
                | refine seg_need ?_ ?_
                | refine wp_assoc ?_ | refine wp_skipS ?_ | refine wp_retS ?_ | refine wp_exitS ?_ | refine wp_dropS (wp_eqT (by simp -dsimp -implicitDefEqProofs; rfl) ?_) | refine wp_sealS (by simp -dsimp -implicitDefEqProofs; rfl) ?_ | refine wp_seal (by simp -dsimp -implicitDefEqProofs; rfl) ?_ | refine wp_pack_out ?_ | refine wp_blockS ?_ | refine wp_skip' ?_ | refine wp_ret' ?_ | refine wp_exit' ?_ | refine wp_drop (wp_eqT (by simp -dsimp -implicitDefEqProofs; rfl) ?_) | refine wp_block' ?_
                | refine wp_condVS (by simp -dsimp -implicitDefEqProofs; rfl) ?_
                | refine wp_condV (by simp -dsimp -implicitDefEqProofs; rfl) ?_
                | refine cond_t ?_ | refine cond_f ?_ | refine cond_v (fun h => ?_) (fun h => ?_)
                | refine post_then ?_ | refine post_thenE ?_ | refine post_thenP ?_ | refine post_blkP ?_ | refine post_thenR ?_ | refine post_blkN ?_ | refine post_blkE ?_ | refine post_blkF rfl ?_ | refine post_blkR ?_
                | refine seg_eval (by simp -dsimp -implicitDefEqProofs [avCt, cCt, spCt1, hd, hd2, hd4, hd5, h64, hx, hP, hH, hm, hml, ha2, ha3, ha5, ha6, hF, hFl, spApplyV, spSize, spEchoes]; rfl) ?_
              all_goals first
                | omega
                | exact ⟨j - 1, by omega, [], [0, 1], rfl, rfl, i + 1, l', ca', ci', true, by omega, by omega, by omega, hpm, hinv', hch', by simp, .inr (by simp)⟩
                | trace_state
            · skip
              repeat' with_reducible first
                | refine wp_regionS (seg_eval (by simp -dsimp -implicitDefEqProofs [avCt, cCt, spCt1, hd, hd2, hd4, hd5, h64, hx, hP, hH, hm, hml, ha2, ha3, ha5, ha6, hF, hFl, spApplyV, spSize, spEchoes]; rfl) ?_)
                | refine wp_region (seg_eval (by simp -dsimp -implicitDefEqProofs [avCt, cCt, spCt1, hd, hd2, hd4, hd5, h64, hx, hP, hH, hm, hml, ha2, ha3, ha5, ha6, hF, hFl, spApplyV, spSize, spEchoes]; rfl) ?_)
                | refine seg_fin ?_
                | refine seg_pan ?_
                | refine seg_both ?_ ?_
                | refine seg_case (fun x h => ?_) (fun h => ?_)
                | refine seg_gate (fun h => ?_) (fun h => ?_)
                | refine seg_need ?_ ?_
                | refine wp_assoc ?_ | refine wp_skipS ?_ | refine wp_retS ?_ | refine wp_exitS ?_ | refine wp_dropS (wp_eqT (by simp -dsimp -implicitDefEqProofs; rfl) ?_) | refine wp_sealS (by simp -dsimp -implicitDefEqProofs; rfl) ?_ | refine wp_seal (by simp -dsimp -implicitDefEqProofs; rfl) ?_ | refine wp_pack_out ?_ | refine wp_blockS ?_ | refine wp_skip' ?_ | refine wp_ret' ?_ | refine wp_exit' ?_ | refine wp_drop (wp_eqT (by simp -dsimp -implicitDefEqProofs; rfl) ?_) | refine wp_block' ?_
                | refine wp_condVS (by simp -dsimp -implicitDefEqProofs; rfl) ?_
                | refine wp_condV (by simp -dsimp -implicitDefEqProofs; rfl) ?_
                | refine cond_t ?_ | refine cond_f ?_ | refine cond_v (fun h => ?_) (fun h => ?_)
                | refine post_then ?_ | refine post_thenE ?_ | refine post_thenP ?_ | refine post_blkP ?_ | refine post_thenR ?_ | refine post_blkN ?_ | refine post_blkE ?_ | refine post_blkF rfl ?_ | refine post_blkR ?_
                | refine seg_eval (by simp -dsimp -implicitDefEqProofs [avCt, cCt, spCt1, hd, hd2, hd4, hd5, h64, hx, hP, hH, hm, hml, ha2, ha3, ha5, ha6, hF, hFl, spApplyV, spSize, spEchoes]; rfl) ?_
              refine wp_drawsR (fun ts mm => ts = [(1, .fsl 3 (ms.map avCt)), (2, .fptr (.agg [.v (.int .i64 v), .v (.int .u16 (m : Nat))]) 0), (5, .ptr 0 0 0), (6, .v (.int .i64 (sizeS m : Nat))), (7, .ptr 1 0 0), (8, .v (.bool false)), (9, .v (.int .i64 i)), (10, .ptr 2 0 0), (11, .v (.int .i64 0))] ∧ mm = [.var [.v (.int .i64 v), .v (.int .u16 (m : Nat)), .fsl 3 (l.map avCt)], .var [.v (.bool ca), .v (.int .u8 ci)], .var [.v (.int .i64 v), .v (.int .u16 (m : Nat)), .fsl 3 (l'.map avCt)]]) ?_ ?_
              · intro W hW
                repeat' with_reducible first
                  | refine wp_regionS (seg_eval (by simp -dsimp -implicitDefEqProofs [avCt, cCt, spCt1, hd, hd2, hd4, hd5, h64, hx, hP, hH, hm, hml, ha2, ha3, ha5, ha6, hF, hFl, spApplyV, spSize, spEchoes]; rfl) ?_)
                  | refine wp_region (seg_eval (by simp -dsimp -implicitDefEqProofs [avCt, cCt, spCt1, hd, hd2, hd4, hd5, h64, hx, hP, hH, hm, hml, ha2, ha3, ha5, ha6, hF, hFl, spApplyV, spSize, spEchoes]; rfl) ?_)
                  | refine wp_drawsS (seg_eval (by simp -dsimp -implicitDefEqProofs [avCt, cCt, spCt1, hd, hd2, hd4, hd5, h64, hx, hP, hH, hm, hml, ha2, ha3, ha5, ha6, hF, hFl, spApplyV, spSize, spEchoes]; rfl) ?_)
                  | refine wp_draws (seg_eval (by simp -dsimp -implicitDefEqProofs [avCt, cCt, spCt1, hd, hd2, hd4, hd5, h64, hx, hP, hH, hm, hml, ha2, ha3, ha5, ha6, hF, hFl, spApplyV, spSize, spEchoes]; rfl) ?_)
                  | refine seg_fin ?_
                  | refine seg_pan ?_
                  | refine seg_both ?_ ?_
                  | refine seg_case (fun x h => ?_) (fun h => ?_)
                  | refine seg_gate (fun h => ?_) (fun h => ?_)
                  | refine seg_need ?_ ?_
                  | refine wp_assoc ?_ | refine wp_skipS ?_ | refine wp_retS ?_ | refine wp_exitS ?_ | refine wp_dropS (wp_eqT (by simp -dsimp -implicitDefEqProofs; rfl) ?_) | refine wp_sealS (by simp -dsimp -implicitDefEqProofs; rfl) ?_ | refine wp_seal (by simp -dsimp -implicitDefEqProofs; rfl) ?_ | refine wp_pack_out ?_ | refine wp_blockS ?_ | refine wp_skip' ?_ | refine wp_ret' ?_ | refine wp_exit' ?_ | refine wp_drop (wp_eqT (by simp -dsimp -implicitDefEqProofs; rfl) ?_) | refine wp_block' ?_
                  | refine wp_condVS (by simp -dsimp -implicitDefEqProofs; rfl) ?_
                  | refine wp_condV (by simp -dsimp -implicitDefEqProofs; rfl) ?_
                  | refine cond_t ?_ | refine cond_f ?_ | refine cond_v (fun h => ?_) (fun h => ?_)
                  | refine post_then ?_ | refine post_thenE ?_ | refine post_thenP ?_ | refine post_blkP ?_ | refine post_thenR ?_ | refine post_blkN ?_ | refine post_blkE ?_ | refine post_blkF rfl ?_ | refine post_blkR ?_
                  | refine seg_eval (by simp -dsimp -implicitDefEqProofs [avCt, cCt, spCt1, hd, hd2, hd4, hd5, h64, hx, hP, hH, hm, hml, ha2, ha3, ha5, ha6, hF, hFl, spApplyV, spSize, spEchoes]; rfl) ?_
                all_goals first
                  | omega
                  | exact hW _ _ ⟨[], [0, 1, 2], rfl, rfl, by simp [avCt, cCt], by first | (simp; done) | (simp [hl0]; done)⟩
                  | trace_state
              rintro ts mm ⟨rfl, rfl⟩
              repeat' with_reducible first
                | refine wp_regionS (seg_eval (by simp -dsimp -implicitDefEqProofs [avCt, cCt, spCt1, hd, hd2, hd4, hd5, h64, hx, hP, hH, hm, hml, ha2, ha3, ha5, ha6, hF, hFl, spApplyV, spSize, spEchoes]; rfl) ?_)
                | refine wp_region (seg_eval (by simp -dsimp -implicitDefEqProofs [avCt, cCt, spCt1, hd, hd2, hd4, hd5, h64, hx, hP, hH, hm, hml, ha2, ha3, ha5, ha6, hF, hFl, spApplyV, spSize, spEchoes]; rfl) ?_)
                | refine seg_fin ?_
                | refine seg_pan ?_
                | refine seg_both ?_ ?_
                | refine seg_case (fun x h => ?_) (fun h => ?_)
                | refine seg_gate (fun h => ?_) (fun h => ?_)
                | refine seg_need ?_ ?_
                | refine wp_assoc ?_ | refine wp_skipS ?_ | refine wp_retS ?_ | refine wp_exitS ?_ | refine wp_dropS (wp_eqT (by simp -dsimp -implicitDefEqProofs; rfl) ?_) | refine wp_sealS (by simp -dsimp -implicitDefEqProofs; rfl) ?_ | refine wp_seal (by simp -dsimp -implicitDefEqProofs; rfl) ?_ | refine wp_pack_out ?_ | refine wp_blockS ?_ | refine wp_skip' ?_ | refine wp_ret' ?_ | refine wp_exit' ?_ | refine wp_drop (wp_eqT (by simp -dsimp -implicitDefEqProofs; rfl) ?_) | refine wp_block' ?_
                | refine wp_condVS (by simp -dsimp -implicitDefEqProofs; rfl) ?_
                | refine wp_condV (by simp -dsimp -implicitDefEqProofs; rfl) ?_
                | refine cond_t ?_ | refine cond_f ?_ | refine cond_v (fun h => ?_) (fun h => ?_)
                | refine post_then ?_ | refine post_thenE ?_ | refine post_thenP ?_ | refine post_blkP ?_ | refine post_thenR ?_ | refine post_blkN ?_ | refine post_blkE ?_ | refine post_blkF rfl ?_ | refine post_blkR ?_
                | refine seg_eval (by simp -dsimp -implicitDefEqProofs [avCt, cCt, spCt1, hd, hd2, hd4, hd5, h64, hx, hP, hH, hm, hml, ha2, ha3, ha5, ha6, hF, hFl, spApplyV, spSize, spEchoes]; rfl) ?_
              refine wp_drawsRS (fun ts mm => ts = [(1, .fsl 3 (ms.map avCt)), (2, .fptr (.agg [.v (.int .i64 v), .v (.int .u16 (m : Nat))]) 0), (5, .ptr 0 0 0), (6, .v (.int .i64 (sizeS m : Nat))), (7, .ptr 1 0 0), (8, .v (.bool false)), (9, .v (.int .i64 i)), (10, .ptr 2 0 0), (52, .v (.bool false))] ∧ mm = [.var [.v (.int .i64 v), .v (.int .u16 (m : Nat)), .fsl 3 (l.map avCt)], .var [.v (.bool ca), .v (.int .u8 ci)], .var [.v (.int .i64 v), .v (.int .u16 (m : Nat)), .fsl 3 (l'.map avCt)]]) ?_ ?_
              · intro W hW
                repeat' with_reducible first
                  | refine wp_regionS (seg_eval (by simp -dsimp -implicitDefEqProofs [avCt, cCt, spCt1, hd, hd2, hd4, hd5, h64, hx, hP, hH, hm, hml, ha2, ha3, ha5, ha6, hF, hFl, spApplyV, spSize, spEchoes]; rfl) ?_)
                  | refine wp_region (seg_eval (by simp -dsimp -implicitDefEqProofs [avCt, cCt, spCt1, hd, hd2, hd4, hd5, h64, hx, hP, hH, hm, hml, ha2, ha3, ha5, ha6, hF, hFl, spApplyV, spSize, spEchoes]; rfl) ?_)
                  | refine wp_drawsS (seg_eval (by simp -dsimp -implicitDefEqProofs [avCt, cCt, spCt1, hd, hd2, hd4, hd5, h64, hx, hP, hH, hm, hml, ha2, ha3, ha5, ha6, hF, hFl, spApplyV, spSize, spEchoes]; rfl) ?_)
                  | refine wp_draws (seg_eval (by simp -dsimp -implicitDefEqProofs [avCt, cCt, spCt1, hd, hd2, hd4, hd5, h64, hx, hP, hH, hm, hml, ha2, ha3, ha5, ha6, hF, hFl, spApplyV, spSize, spEchoes]; rfl) ?_)
                  | refine seg_fin ?_
                  | refine seg_pan ?_
                  | refine seg_both ?_ ?_
                  | refine seg_case (fun x h => ?_) (fun h => ?_)
                  | refine seg_gate (fun h => ?_) (fun h => ?_)
                  | refine seg_need ?_ ?_
                  | refine wp_assoc ?_ | refine wp_skipS ?_ | refine wp_retS ?_ | refine wp_exitS ?_ | refine wp_dropS (wp_eqT (by simp -dsimp -implicitDefEqProofs; rfl) ?_) | refine wp_sealS (by simp -dsimp -implicitDefEqProofs; rfl) ?_ | refine wp_seal (by simp -dsimp -implicitDefEqProofs; rfl) ?_ | refine wp_pack_out ?_ | refine wp_blockS ?_ | refine wp_skip' ?_ | refine wp_ret' ?_ | refine wp_exit' ?_ | refine wp_drop (wp_eqT (by simp -dsimp -implicitDefEqProofs; rfl) ?_) | refine wp_block' ?_
                  | refine wp_condVS (by simp -dsimp -implicitDefEqProofs; rfl) ?_
                  | refine wp_condV (by simp -dsimp -implicitDefEqProofs; rfl) ?_
                  | refine cond_t ?_ | refine cond_f ?_ | refine cond_v (fun h => ?_) (fun h => ?_)
                  | refine post_then ?_ | refine post_thenE ?_ | refine post_thenP ?_ | refine post_blkP ?_ | refine post_thenR ?_ | refine post_blkN ?_ | refine post_blkE ?_ | refine post_blkF rfl ?_ | refine post_blkR ?_
                  | refine seg_eval (by simp -dsimp -implicitDefEqProofs [avCt, cCt, spCt1, hd, hd2, hd4, hd5, h64, hx, hP, hH, hm, hml, ha2, ha3, ha5, ha6, hF, hFl, spApplyV, spSize, spEchoes]; rfl) ?_
                all_goals first
                  | omega
                  | exact hW _ _ ⟨[], [0, 1, 2], rfl, rfl, by simp [avCt, cCt], by simp⟩
                  | trace_state
              rintro ts mm ⟨rfl, rfl⟩
              repeat' with_reducible first
                | refine wp_regionS (seg_eval (by simp -dsimp -implicitDefEqProofs [avCt, cCt, spCt1, hd, hd2, hd4, hd5, h64, hx, hP, hH, hm, hml, ha2, ha3, ha5, ha6, hF, hFl, spApplyV, spSize, spEchoes]; rfl) ?_)
                | refine wp_region (seg_eval (by simp -dsimp -implicitDefEqProofs [avCt, cCt, spCt1, hd, hd2, hd4, hd5, h64, hx, hP, hH, hm, hml, ha2, ha3, ha5, ha6, hF, hFl, spApplyV, spSize, spEchoes]; rfl) ?_)
                | refine wp_drawsS (seg_eval (by simp -dsimp -implicitDefEqProofs [avCt, cCt, spCt1, hd, hd2, hd4, hd5, h64, hx, hP, hH, hm, hml, ha2, ha3, ha5, ha6, hF, hFl, spApplyV, spSize, spEchoes]; rfl) ?_)
                | refine wp_draws (seg_eval (by simp -dsimp -implicitDefEqProofs [avCt, cCt, spCt1, hd, hd2, hd4, hd5, h64, hx, hP, hH, hm, hml, ha2, ha3, ha5, ha6, hF, hFl, spApplyV, spSize, spEchoes]; rfl) ?_)
                | refine seg_fin ?_
                | refine seg_pan ?_
                | refine seg_both ?_ ?_
                | refine seg_case (fun x h => ?_) (fun h => ?_)
                | refine seg_gate (fun h => ?_) (fun h => ?_)
                | refine seg_need ?_ ?_
                | refine wp_assoc ?_ | refine wp_skipS ?_ | refine wp_retS ?_ | refine wp_exitS ?_ | refine wp_dropS (wp_eqT (by simp -dsimp -implicitDefEqProofs; rfl) ?_) | refine wp_sealS (by simp -dsimp -implicitDefEqProofs; rfl) ?_ | refine wp_seal (by simp -dsimp -implicitDefEqProofs; rfl) ?_ | refine wp_pack_out ?_ | refine wp_blockS ?_ | refine wp_skip' ?_ | refine wp_ret' ?_ | refine wp_exit' ?_ | refine wp_drop (wp_eqT (by simp -dsimp -implicitDefEqProofs; rfl) ?_) | refine wp_block' ?_
                | refine wp_condVS (by simp -dsimp -implicitDefEqProofs; rfl) ?_
                | refine wp_condV (by simp -dsimp -implicitDefEqProofs; rfl) ?_
                | refine cond_t ?_ | refine cond_f ?_ | refine cond_v (fun h => ?_) (fun h => ?_)
                | refine post_then ?_ | refine post_thenE ?_ | refine post_thenP ?_ | refine post_blkP ?_ | refine post_thenR ?_ | refine post_blkN ?_ | refine post_blkE ?_ | refine post_blkF rfl ?_ | refine post_blkR ?_
                | refine seg_eval (by simp -dsimp -implicitDefEqProofs [avCt, cCt, spCt1, hd, hd2, hd4, hd5, h64, hx, hP, hH, hm, hml, ha2, ha3, ha5, ha6, hF, hFl, spApplyV, spSize, spEchoes]; rfl) ?_
              all_goals first
                | omega
                | exact ⟨j - 1, by omega, [], [0, 1], rfl, rfl, i + 1, l', ca', ci', true, by omega, by omega, by omega, hpm, hinv', hch', by simp, .inr (by simp)⟩
                | trace_state
          · rw [hch] at hch'
            simp at hch'
        · obtain ⟨ha1, ha2, ha3, ha4⟩ := happ rfl
          have ha5 : ((applyV v m ca' ci'.toNat).2 != 0) = false := by simp [ha1]
          have ha6 : decide (((sizeS (forC v m l' ca' ci') : Nat) : Int) < echoesS (sizeS m)) = false := by rw [decide_eq_false_iff_not]; omega
          have heq : eqCells [.b, .i] [.v (.bool ca'), .v (.int .u8 ci')] [.v (.bool ca'), .v (.int .u8 ci')] = some true := by rw [eqCells_bi]; simp
          rcases hmm with ⟨hl0, rfl⟩ | rfl
          · rw [hl0] at hch; simp [chosenC] at hch
          · rcases hee with rfl | ⟨he, rfl⟩
            · skip
              repeat' with_reducible first
                | refine wp_regionS (seg_eval (by simp -dsimp -implicitDefEqProofs [avCt, cCt, spCt1, hd, hd2, hd4, hd5, h64, hx, hP, hH, hm, hml, ha2, ha3, ha5, ha6, hF, hFl, spApplyV, spSize, spEchoes, heq]; rfl) ?_)
                | refine wp_region (seg_eval (by simp -dsimp -implicitDefEqProofs [avCt, cCt, spCt1, hd, hd2, hd4, hd5, h64, hx, hP, hH, hm, hml, ha2, ha3, ha5, ha6, hF, hFl, spApplyV, spSize, spEchoes, heq]; rfl) ?_)
                | refine seg_fin ?_
                | refine seg_pan ?_
                | refine seg_both ?_ ?_
                | refine seg_case (fun x h => ?_) (fun h => ?_)
                | refine seg_gate (fun h => ?_) (fun h => ?_)
                | refine seg_need ?_ ?_
                | refine wp_assoc ?_ | refine wp_skipS ?_ | refine wp_retS ?_ | refine wp_exitS ?_ | refine wp_dropS (wp_eqT (by simp -dsimp -implicitDefEqProofs; rfl) ?_) | refine wp_sealS (by simp -dsimp -implicitDefEqProofs; rfl) ?_ | refine wp_seal (by simp -dsimp -implicitDefEqProofs; rfl) ?_ | refine wp_pack_out ?_ | refine wp_blockS ?_ | refine wp_skip' ?_ | refine wp_ret' ?_ | refine wp_exit' ?_ | refine wp_drop (wp_eqT (by simp -dsimp -implicitDefEqProofs; rfl) ?_) | refine wp_block' ?_
                | refine wp_condVS (by simp -dsimp -implicitDefEqProofs; rfl) ?_
                | refine wp_condV (by simp -dsimp -implicitDefEqProofs; rfl) ?_
                | refine cond_t ?_ | refine cond_f ?_ | refine cond_v (fun h => ?_) (fun h => ?_)
                | refine post_then ?_ | refine post_thenE ?_ | refine post_thenP ?_ | refine post_blkP ?_ | refine post_thenR ?_ | refine post_blkN ?_ | refine post_blkE ?_ | refine post_blkF rfl ?_ | refine post_blkR ?_
                | refine seg_eval (by simp -dsimp -implicitDefEqProofs [avCt, cCt, spCt1, hd, hd2, hd4, hd5, h64, hx, hP, hH, hm, hml, ha2, ha3, ha5, ha6, hF, hFl, spApplyV, spSize, spEchoes, heq]; rfl) ?_
              refine wp_drawsR (fun ts mm => ts = [(1, .fsl 3 (ms.map avCt)), (2, .fptr (.agg [.v (.int .i64 v), .v (.int .u16 (m : Nat))]) 0), (5, .ptr 0 0 0), (6, .v (.int .i64 (sizeS m : Nat))), (7, .ptr 1 0 0), (8, .v (.bool true)), (9, .v (.int .i64 i)), (10, .ptr 2 0 0), (11, .v (.int .i64 0))] ∧ mm = [.var [.v (.int .i64 v), .v (.int .u16 (m : Nat)), .fsl 3 (l.map avCt)], .var [.v (.bool ca'), .v (.int .u8 ci')], .var [.v (.int .i64 v), .v (.int .u16 (m : Nat)), .fsl 3 (l'.map avCt)]]) ?_ ?_
              · intro W hW
                repeat' with_reducible first
                  | refine wp_regionS (seg_eval (by simp -dsimp -implicitDefEqProofs [avCt, cCt, spCt1, hd, hd2, hd4, hd5, h64, hx, hP, hH, hm, hml, ha2, ha3, ha5, ha6, hF, hFl, spApplyV, spSize, spEchoes, heq]; rfl) ?_)
                  | refine wp_region (seg_eval (by simp -dsimp -implicitDefEqProofs [avCt, cCt, spCt1, hd, hd2, hd4, hd5, h64, hx, hP, hH, hm, hml, ha2, ha3, ha5, ha6, hF, hFl, spApplyV, spSize, spEchoes, heq]; rfl) ?_)
                  | refine wp_drawsS (seg_eval (by simp -dsimp -implicitDefEqProofs [avCt, cCt, spCt1, hd, hd2, hd4, hd5, h64, hx, hP, hH, hm, hml, ha2, ha3, ha5, ha6, hF, hFl, spApplyV, spSize, spEchoes, heq]; rfl) ?_)
                  | refine wp_draws (seg_eval (by simp -dsimp -implicitDefEqProofs [avCt, cCt, spCt1, hd, hd2, hd4, hd5, h64, hx, hP, hH, hm, hml, ha2, ha3, ha5, ha6, hF, hFl, spApplyV, spSize, spEchoes, heq]; rfl) ?_)
                  | refine seg_fin ?_
                  | refine seg_pan ?_
                  | refine seg_both ?_ ?_
                  | refine seg_case (fun x h => ?_) (fun h => ?_)
                  | refine seg_gate (fun h => ?_) (fun h => ?_)
                  | refine seg_need ?_ ?_
                  | refine wp_assoc ?_ | refine wp_skipS ?_ | refine wp_retS ?_ | refine wp_exitS ?_ | refine wp_dropS (wp_eqT (by simp -dsimp -implicitDefEqProofs; rfl) ?_) | refine wp_sealS (by simp -dsimp -implicitDefEqProofs; rfl) ?_ | refine wp_seal (by simp -dsimp -implicitDefEqProofs; rfl) ?_ | refine wp_pack_out ?_ | refine wp_blockS ?_ | refine wp_skip' ?_ | refine wp_ret' ?_ | refine wp_exit' ?_ | refine wp_drop (wp_eqT (by simp -dsimp -implicitDefEqProofs; rfl) ?_) | refine wp_block' ?_
                  | refine wp_condVS (by simp -dsimp -implicitDefEqProofs; rfl) ?_
                  | refine wp_condV (by simp -dsimp -implicitDefEqProofs; rfl) ?_
                  | refine cond_t ?_ | refine cond_f ?_ | refine cond_v (fun h => ?_) (fun h => ?_)
                  | refine post_then ?_ | refine post_thenE ?_ | refine post_thenP ?_ | refine post_blkP ?_ | refine post_thenR ?_ | refine post_blkN ?_ | refine post_blkE ?_ | refine post_blkF rfl ?_ | refine post_blkR ?_
                  | refine seg_eval (by simp -dsimp -implicitDefEqProofs [avCt, cCt, spCt1, hd, hd2, hd4, hd5, h64, hx, hP, hH, hm, hml, ha2, ha3, ha5, ha6, hF, hFl, spApplyV, spSize, spEchoes, heq]; rfl) ?_
                all_goals first
                  | omega
                  | exact hW _ _ ⟨[], [0, 1, 2], rfl, rfl, by simp [avCt, cCt], by first | (simp; done) | (simp [hl0]; done)⟩
                  | trace_state
              rintro ts mm ⟨rfl, rfl⟩
              repeat' with_reducible first
                | refine wp_regionS (seg_eval (by simp -dsimp -implicitDefEqProofs [avCt, cCt, spCt1, hd, hd2, hd4, hd5, h64, hx, hP, hH, hm, hml, ha2, ha3, ha5, ha6, hF, hFl, spApplyV, spSize, spEchoes, heq]; rfl) ?_)
                | refine wp_region (seg_eval (by simp -dsimp -implicitDefEqProofs [avCt, cCt, spCt1, hd, hd2, hd4, hd5, h64, hx, hP, hH, hm, hml, ha2, ha3, ha5, ha6, hF, hFl, spApplyV, spSize, spEchoes, heq]; rfl) ?_)
                | refine seg_fin ?_
                | refine seg_pan ?_
                | refine seg_both ?_ ?_
                | refine seg_case (fun x h => ?_) (fun h => ?_)
                | refine seg_gate (fun h => ?_) (fun h => ?_)
                | refine seg_need ?_ ?_
                | refine wp_assoc ?_ | refine wp_skipS ?_ | refine wp_retS ?_ | refine wp_exitS ?_ | refine wp_dropS (wp_eqT (by simp -dsimp -implicitDefEqProofs; rfl) ?_) | refine wp_sealS (by simp -dsimp -implicitDefEqProofs; rfl) ?_ | refine wp_seal (by simp -dsimp -implicitDefEqProofs; rfl) ?_ | refine wp_pack_out ?_ | refine wp_blockS ?_ | refine wp_skip' ?_ | refine wp_ret' ?_ | refine wp_exit' ?_ | refine wp_drop (wp_eqT (by simp -dsimp -implicitDefEqProofs; rfl) ?_) | refine wp_block' ?_
                | refine wp_condVS (by simp -dsimp -implicitDefEqProofs; rfl) ?_
                | refine wp_condV (by simp -dsimp -implicitDefEqProofs; rfl) ?_
                | refine cond_t ?_ | refine cond_f ?_ | refine cond_v (fun h => ?_) (fun h => ?_)
                | refine post_then ?_ | refine post_thenE ?_ | refine post_thenP ?_ | refine post_blkP ?_ | refine post_thenR ?_ | refine post_blkN ?_ | refine post_blkE ?_ | refine post_blkF rfl ?_ | refine post_blkR ?_
                | refine seg_eval (by simp -dsimp -implicitDefEqProofs [avCt, cCt, spCt1, hd, hd2, hd4, hd5, h64, hx, hP, hH, hm, hml, ha2, ha3, ha5, ha6, hF, hFl, spApplyV, spSize, spEchoes, heq]; rfl) ?_
              refine wp_drawsRS (fun ts mm => ts = [(1, .fsl 3 (ms.map avCt)), (2, .fptr (.agg [.v (.int .i64 v), .v (.int .u16 (m : Nat))]) 0), (5, .ptr 0 0 0), (6, .v (.int .i64 (sizeS m : Nat))), (7, .ptr 1 0 0), (8, .v (.bool true)), (9, .v (.int .i64 i)), (10, .ptr 2 0 0), (52, .v (.bool false))] ∧ mm = [.var [.v (.int .i64 v), .v (.int .u16 (m : Nat)), .fsl 3 (l.map avCt)], .var [.v (.bool ca'), .v (.int .u8 ci')], .var [.v (.int .i64 v), .v (.int .u16 (m : Nat)), .fsl 3 (l'.map avCt)]]) ?_ ?_
              · intro W hW
                repeat' with_reducible first
                  | refine wp_regionS (seg_eval (by simp -dsimp -implicitDefEqProofs [avCt, cCt, spCt1, hd, hd2, hd4, hd5, h64, hx, hP, hH, hm, hml, ha2, ha3, ha5, ha6, hF, hFl, spApplyV, spSize, spEchoes, heq]; rfl) ?_)
                  | refine wp_region (seg_eval (by simp -dsimp -implicitDefEqProofs [avCt, cCt, spCt1, hd, hd2, hd4, hd5, h64, hx, hP, hH, hm, hml, ha2, ha3, ha5, ha6, hF, hFl, spApplyV, spSize, spEchoes, heq]; rfl) ?_)
                  | refine wp_drawsS (seg_eval (by simp -dsimp -implicitDefEqProofs [avCt, cCt, spCt1, hd, hd2, hd4, hd5, h64, hx, hP, hH, hm, hml, ha2, ha3, ha5, ha6, hF, hFl, spApplyV, spSize, spEchoes, heq]; rfl) ?_)
                  | refine wp_draws (seg_eval (by simp -dsimp -implicitDefEqProofs [avCt, cCt, spCt1, hd, hd2, hd4, hd5, h64, hx, hP, hH, hm, hml, ha2, ha3, ha5, ha6, hF, hFl, spApplyV, spSize, spEchoes, heq]; rfl) ?_)
                  | refine seg_fin ?_
                  | refine seg_pan ?_
                  | refine seg_both ?_ ?_
                  | refine seg_case (fun x h => ?_) (fun h => ?_)
                  | refine seg_gate (fun h => ?_) (fun h => ?_)
                  | refine seg_need ?_ ?_
                  | refine wp_assoc ?_ | refine wp_skipS ?_ | refine wp_retS ?_ | refine wp_exitS ?_ | refine wp_dropS (wp_eqT (by simp -dsimp -implicitDefEqProofs; rfl) ?_) | refine wp_sealS (by simp -dsimp -implicitDefEqProofs; rfl) ?_ | refine wp_seal (by simp -dsimp -implicitDefEqProofs; rfl) ?_ | refine wp_pack_out ?_ | refine wp_blockS ?_ | refine wp_skip' ?_ | refine wp_ret' ?_ | refine wp_exit' ?_ | refine wp_drop (wp_eqT (by simp -dsimp -implicitDefEqProofs; rfl) ?_) | refine wp_block' ?_
                  | refine wp_condVS (by simp -dsimp -implicitDefEqProofs; rfl) ?_
                  | refine wp_condV (by simp -dsimp -implicitDefEqProofs; rfl) ?_
                  | refine cond_t ?_ | refine cond_f ?_ | refine cond_v (fun h => ?_) (fun h => ?_)
                  | refine post_then ?_ | refine post_thenE ?_ | refine post_thenP ?_ | refine post_blkP ?_ | refine post_thenR ?_ | refine post_blkN ?_ | refine post_blkE ?_ | refine post_blkF rfl ?_ | refine post_blkR ?_
                  | refine seg_eval (by simp -dsimp -implicitDefEqProofs [avCt, cCt, spCt1, hd, hd2, hd4, hd5, h64, hx, hP, hH, hm, hml, ha2, ha3, ha5, ha6, hF, hFl, spApplyV, spSize, spEchoes, heq]; rfl) ?_
                all_goals first
                  | omega
                  | exact hW _ _ ⟨[], [0, 1, 2], rfl, rfl, by simp [avCt, cCt], by simp⟩
                  | trace_state
              rintro ts mm ⟨rfl, rfl⟩
              repeat' with_reducible first
                | refine wp_regionS (seg_eval (by simp -dsimp -implicitDefEqProofs [avCt, cCt, spCt1, hd, hd2, hd4, hd5, h64, hx, hP, hH, hm, hml, ha2, ha3, ha5, ha6, hF, hFl, spApplyV, spSize, spEchoes, heq]; rfl) ?_)
                | refine wp_region (seg_eval (by simp -dsimp -implicitDefEqProofs [avCt, cCt, spCt1, hd, hd2, hd4, hd5, h64, hx, hP, hH, hm, hml, ha2, ha3, ha5, ha6, hF, hFl, spApplyV, spSize, spEchoes, heq]; rfl) ?_)
                | refine wp_drawsS (seg_eval (by simp -dsimp -implicitDefEqProofs [avCt, cCt, spCt1, hd, hd2, hd4, hd5, h64, hx, hP, hH, hm, hml, ha2, ha3, ha5, ha6, hF, hFl, spApplyV, spSize, spEchoes, heq]; rfl) ?_)
                | refine wp_draws (seg_eval (by simp -dsimp -implicitDefEqProofs [avCt, cCt, spCt1, hd, hd2, hd4, hd5, h64, hx, hP, hH, hm, hml, ha2, ha3, ha5, ha6, hF, hFl, spApplyV, spSize, spEchoes, heq]; rfl) ?_)
                | refine seg_fin ?_
                | refine seg_pan ?_
                | refine seg_both ?_ ?_
                | refine seg_case (fun x h => ?_) (fun h => ?_)
                | refine seg_gate (fun h => ?_) (fun h => ?_)
                | refine seg_need ?_ ?_
                | refine wp_assoc ?_ | refine wp_skipS ?_ | refine wp_retS ?_ | refine wp_exitS ?_ | refine wp_dropS (wp_eqT (by simp -dsimp -implicitDefEqProofs; rfl) ?_) | refine wp_sealS (by simp -dsimp -implicitDefEqProofs; rfl) ?_ | refine wp_seal (by simp -dsimp -implicitDefEqProofs; rfl) ?_ | refine wp_pack_out ?_ | refine wp_blockS ?_ | refine wp_skip' ?_ | refine wp_ret' ?_ | refine wp_exit' ?_ | refine wp_drop (wp_eqT (by simp -dsimp -implicitDefEqProofs; rfl) ?_) | refine wp_block' ?_
                | refine wp_condVS (by simp -dsimp -implicitDefEqProofs; rfl) ?_
                | refine wp_condV (by simp -dsimp -implicitDefEqProofs; rfl) ?_
                | refine cond_t ?_ | refine cond_f ?_ | refine cond_v (fun h => ?_) (fun h => ?_)
                | refine post_then ?_ | refine post_thenE ?_ | refine post_thenP ?_ | refine post_blkP ?_ | refine post_thenR ?_ | refine post_blkN ?_ | refine post_blkE ?_ | refine post_blkF rfl ?_ | refine post_blkR ?_
                | refine seg_eval (by simp -dsimp -implicitDefEqProofs [avCt, cCt, spCt1, hd, hd2, hd4, hd5, h64, hx, hP, hH, hm, hml, ha2, ha3, ha5, ha6, hF, hFl, spApplyV, spSize, spEchoes, heq]; rfl) ?_
              all_goals first
                | omega
                | exact ⟨j - 1, by omega, [], [0, 1], rfl, rfl, i + 1, l', ca', ci', true, by omega, by omega, by omega, hpm, hinv', hch', by simp, .inr (by simp)⟩
                | trace_state
            · have he1 : (e != (0 : Int)) = true := by simp [he]
              repeat' with_reducible first
                | refine wp_regionS (seg_eval (by simp -dsimp -implicitDefEqProofs [avCt, cCt, spCt1, hd, hd2, hd4, hd5, h64, hx, hP, hH, hm, hml, ha2, ha3, ha5, ha6, hF, hFl, spApplyV, spSize, spEchoes, heq, hC, hS, he1]; rfl) ?_)
                | refine wp_region (seg_eval (by simp -dsimp -implicitDefEqProofs [avCt, cCt, spCt1, hd, hd2, hd4, hd5, h64, hx, hP, hH, hm, hml, ha2, ha3, ha5, ha6, hF, hFl, spApplyV, spSize, spEchoes, heq, hC, hS, he1]; rfl) ?_)
                | refine seg_fin ?_
                | refine seg_pan ?_
                | refine seg_both ?_ ?_
                | refine seg_case (fun x h => ?_) (fun h => ?_)
                | refine seg_gate (fun h => ?_) (fun h => ?_)
                | refine seg_need ?_ ?_
                | refine wp_assoc ?_ | refine wp_skipS ?_ | refine wp_retS ?_ | refine wp_exitS ?_ | refine wp_dropS (wp_eqT (by simp -dsimp -implicitDefEqProofs; rfl) ?_) | refine wp_sealS (by simp -dsimp -implicitDefEqProofs; rfl) ?_ | refine wp_seal (by simp -dsimp -implicitDefEqProofs; rfl) ?_ | refine wp_pack_out ?_ | refine wp_blockS ?_ | refine wp_skip' ?_ | refine wp_ret' ?_ | refine wp_exit' ?_ | refine wp_drop (wp_eqT (by simp -dsimp -implicitDefEqProofs; rfl) ?_) | refine wp_block' ?_
                | refine wp_condVS (by simp -dsimp -implicitDefEqProofs; rfl) ?_
                | refine wp_condV (by simp -dsimp -implicitDefEqProofs; rfl) ?_
                | refine cond_t ?_ | refine cond_f ?_ | refine cond_v (fun h => ?_) (fun h => ?_)
                | refine post_then ?_ | refine post_thenE ?_ | refine post_thenP ?_ | refine post_blkP ?_ | refine post_thenR ?_ | refine post_blkN ?_ | refine post_blkE ?_ | refine post_blkF rfl ?_ | refine post_blkR ?_
                | refine seg_eval (by simp -dsimp -implicitDefEqProofs [avCt, cCt, spCt1, hd, hd2, hd4, hd5, h64, hx, hP, hH, hm, hml, ha2, ha3, ha5, ha6, hF, hFl, spApplyV, spSize, spEchoes, heq, hC, hS, he1]; rfl) ?_
              refine wp_drawsR (fun ts mm => ts = [(1, .fsl 3 (ms.map avCt)), (2, .fptr (.agg [.v (.int .i64 v), .v (.int .u16 (m : Nat))]) 0), (5, .ptr 0 0 0), (6, .v (.int .i64 (sizeS m : Nat))), (7, .ptr 1 0 0), (8, .v (.bool true)), (9, .v (.int .i64 i)), (10, .ptr 2 0 0), (11, .v (.int .i64 e))] ∧ mm = [.var [.v (.int .i64 v), .v (.int .u16 (m : Nat)), .fsl 3 (l'.map avCt)], .var [.v (.bool ca'), .v (.int .u8 ci')], .var [.v (.int .i64 v), .v (.int .u16 (m : Nat)), .fsl 3 (l'.map avCt)]]) ?_ ?_
              · intro W hW
                repeat' with_reducible first
                  | refine wp_regionS (seg_eval (by simp -dsimp -implicitDefEqProofs [avCt, cCt, spCt1, hd, hd2, hd4, hd5, h64, hx, hP, hH, hm, hml, ha2, ha3, ha5, ha6, hF, hFl, spApplyV, spSize, spEchoes, heq, hC, hS, he1]; rfl) ?_)
                  | refine wp_region (seg_eval (by simp -dsimp -implicitDefEqProofs [avCt, cCt, spCt1, hd, hd2, hd4, hd5, h64, hx, hP, hH, hm, hml, ha2, ha3, ha5, ha6, hF, hFl, spApplyV, spSize, spEchoes, heq, hC, hS, he1]; rfl) ?_)
                  | refine wp_drawsS (seg_eval (by simp -dsimp -implicitDefEqProofs [avCt, cCt, spCt1, hd, hd2, hd4, hd5, h64, hx, hP, hH, hm, hml, ha2, ha3, ha5, ha6, hF, hFl, spApplyV, spSize, spEchoes, heq, hC, hS, he1]; rfl) ?_)
                  | refine wp_draws (seg_eval (by simp -dsimp -implicitDefEqProofs [avCt, cCt, spCt1, hd, hd2, hd4, hd5, h64, hx, hP, hH, hm, hml, ha2, ha3, ha5, ha6, hF, hFl, spApplyV, spSize, spEchoes, heq, hC, hS, he1]; rfl) ?_)
                  | refine seg_fin ?_
                  | refine seg_pan ?_
                  | refine seg_both ?_ ?_
                  | refine seg_case (fun x h => ?_) (fun h => ?_)
                  | refine seg_gate (fun h => ?_) (fun h => ?_)
                  | refine seg_need ?_ ?_
                  | refine wp_assoc ?_ | refine wp_skipS ?_ | refine wp_retS ?_ | refine wp_exitS ?_ | refine wp_dropS (wp_eqT (by simp -dsimp -implicitDefEqProofs; rfl) ?_) | refine wp_sealS (by simp -dsimp -implicitDefEqProofs; rfl) ?_ | refine wp_seal (by simp -dsimp -implicitDefEqProofs; rfl) ?_ | refine wp_pack_out ?_ | refine wp_blockS ?_ | refine wp_skip' ?_ | refine wp_ret' ?_ | refine wp_exit' ?_ | refine wp_drop (wp_eqT (by simp -dsimp -implicitDefEqProofs; rfl) ?_) | refine wp_block' ?_
                  | refine wp_condVS (by simp -dsimp -implicitDefEqProofs; rfl) ?_
                  | refine wp_condV (by simp -dsimp -implicitDefEqProofs; rfl) ?_
                  | refine cond_t ?_ | refine cond_f ?_ | refine cond_v (fun h => ?_) (fun h => ?_)
                  | refine post_then ?_ | refine post_thenE ?_ | refine post_thenP ?_ | refine post_blkP ?_ | refine post_thenR ?_ | refine post_blkN ?_ | refine post_blkE ?_ | refine post_blkF rfl ?_ | refine post_blkR ?_
                  | refine seg_eval (by simp -dsimp -implicitDefEqProofs [avCt, cCt, spCt1, hd, hd2, hd4, hd5, h64, hx, hP, hH, hm, hml, ha2, ha3, ha5, ha6, hF, hFl, spApplyV, spSize, spEchoes, heq, hC, hS, he1]; rfl) ?_
                all_goals first
                  | omega
                  | exact hW _ _ ⟨[], [0, 1, 2], rfl, rfl, by simp [avCt, cCt], by first | (simp; done) | (simp [hl0]; done)⟩
                  | trace_state
              rintro ts mm ⟨rfl, rfl⟩
              repeat' with_reducible first
                | refine wp_regionS (seg_eval (by simp -dsimp -implicitDefEqProofs [avCt, cCt, spCt1, hd, hd2, hd4, hd5, h64, hx, hP, hH, hm, hml, ha2, ha3, ha5, ha6, hF, hFl, spApplyV, spSize, spEchoes, heq, hC, hS, he1]; rfl) ?_)
                | refine wp_region (seg_eval (by simp -dsimp -implicitDefEqProofs [avCt, cCt, spCt1, hd, hd2, hd4, hd5, h64, hx, hP, hH, hm, hml, ha2, ha3, ha5, ha6, hF, hFl, spApplyV, spSize, spEchoes, heq, hC, hS, he1]; rfl) ?_)
                | refine seg_fin ?_
                | refine seg_pan ?_
                | refine seg_both ?_ ?_
                | refine seg_case (fun x h => ?_) (fun h => ?_)
                | refine seg_gate (fun h => ?_) (fun h => ?_)
                | refine seg_need ?_ ?_
                | refine wp_assoc ?_ | refine wp_skipS ?_ | refine wp_retS ?_ | refine wp_exitS ?_ | refine wp_dropS (wp_eqT (by simp -dsimp -implicitDefEqProofs; rfl) ?_) | refine wp_sealS (by simp -dsimp -implicitDefEqProofs; rfl) ?_ | refine wp_seal (by simp -dsimp -implicitDefEqProofs; rfl) ?_ | refine wp_pack_out ?_ | refine wp_blockS ?_ | refine wp_skip' ?_ | refine wp_ret' ?_ | refine wp_exit' ?_ | refine wp_drop (wp_eqT (by simp -dsimp -implicitDefEqProofs; rfl) ?_) | refine wp_block' ?_
                | refine wp_condVS (by simp -dsimp -implicitDefEqProofs; rfl) ?_
                | refine wp_condV (by simp -dsimp -implicitDefEqProofs; rfl) ?_
                | refine cond_t ?_ | refine cond_f ?_ | refine cond_v (fun h => ?_) (fun h => ?_)
                | refine post_then ?_ | refine post_thenE ?_ | refine post_thenP ?_ | refine post_blkP ?_ | refine post_thenR ?_ | refine post_blkN ?_ | refine post_blkE ?_ | refine post_blkF rfl ?_ | refine post_blkR ?_
                | refine seg_eval (by simp -dsimp -implicitDefEqProofs [avCt, cCt, spCt1, hd, hd2, hd4, hd5, h64, hx, hP, hH, hm, hml, ha2, ha3, ha5, ha6, hF, hFl, spApplyV, spSize, spEchoes, heq, hC, hS, he1]; rfl) ?_
              refine wp_drawsRS (fun ts mm => ts = [(1, .fsl 3 (ms.map avCt)), (2, .fptr (.agg [.v (.int .i64 v), .v (.int .u16 (m : Nat))]) 0), (5, .ptr 0 0 0), (6, .v (.int .i64 (sizeS m : Nat))), (7, .ptr 1 0 0), (8, .v (.bool true)), (9, .v (.int .i64 i)), (10, .ptr 2 0 0), (52, .v (.bool false))] ∧ mm = [.var [.v (.int .i64 v), .v (.int .u16 (m : Nat)), .fsl 3 (l'.map avCt)], .var [.v (.bool ca'), .v (.int .u8 ci')], .var [.v (.int .i64 v), .v (.int .u16 (m : Nat)), .fsl 3 (l'.map avCt)]]) ?_ ?_
              · intro W hW
                repeat' with_reducible first
                  | refine wp_regionS (seg_eval (by simp -dsimp -implicitDefEqProofs [avCt, cCt, spCt1, hd, hd2, hd4, hd5, h64, hx, hP, hH, hm, hml, ha2, ha3, ha5, ha6, hF, hFl, spApplyV, spSize, spEchoes, heq, hC, hS, he1]; rfl) ?_)
                  | refine wp_region (seg_eval (by simp -dsimp -implicitDefEqProofs [avCt, cCt, spCt1, hd, hd2, hd4, hd5, h64, hx, hP, hH, hm, hml, ha2, ha3, ha5, ha6, hF, hFl, spApplyV, spSize, spEchoes, heq, hC, hS, he1]; rfl) ?_)
                  | refine wp_drawsS (seg_eval (by simp -dsimp -implicitDefEqProofs [avCt, cCt, spCt1, hd, hd2, hd4, hd5, h64, hx, hP, hH, hm, hml, ha2, ha3, ha5, ha6, hF, hFl, spApplyV, spSize, spEchoes, heq, hC, hS, he1]; rfl) ?_)
                  | refine wp_draws (seg_eval (by simp -dsimp -implicitDefEqProofs [avCt, cCt, spCt1, hd, hd2, hd4, hd5, h64, hx, hP, hH, hm, hml, ha2, ha3, ha5, ha6, hF, hFl, spApplyV, spSize, spEchoes, heq, hC, hS, he1]; rfl) ?_)
                  | refine seg_fin ?_
                  | refine seg_pan ?_
                  | refine seg_both ?_ ?_
                  | refine seg_case (fun x h => ?_) (fun h => ?_)
                  | refine seg_gate (fun h => ?_) (fun h => ?_)
                  | refine seg_need ?_ ?_
                  | refine wp_assoc ?_ | refine wp_skipS ?_ | refine wp_retS ?_ | refine wp_exitS ?_ | refine wp_dropS (wp_eqT (by simp -dsimp -implicitDefEqProofs; rfl) ?_) | refine wp_sealS (by simp -dsimp -implicitDefEqProofs; rfl) ?_ | refine wp_seal (by simp -dsimp -implicitDefEqProofs; rfl) ?_ | refine wp_pack_out ?_ | refine wp_blockS ?_ | refine wp_skip' ?_ | refine wp_ret' ?_ | refine wp_exit' ?_ | refine wp_drop (wp_eqT (by simp -dsimp -implicitDefEqProofs; rfl) ?_) | refine wp_block' ?_
                  | refine wp_condVS (by simp -dsimp -implicitDefEqProofs; rfl) ?_
                  | refine wp_condV (by simp -dsimp -implicitDefEqProofs; rfl) ?_
                  | refine cond_t ?_ | refine cond_f ?_ | refine cond_v (fun h => ?_) (fun h => ?_)
                  | refine post_then ?_ | refine post_thenE ?_ | refine post_thenP ?_ | refine post_blkP ?_ | refine post_thenR ?_ | refine post_blkN ?_ | refine post_blkE ?_ | refine post_blkF rfl ?_ | refine post_blkR ?_
                  | refine seg_eval (by simp -dsimp -implicitDefEqProofs [avCt, cCt, spCt1, hd, hd2, hd4, hd5, h64, hx, hP, hH, hm, hml, ha2, ha3, ha5, ha6, hF, hFl, spApplyV, spSize, spEchoes, heq, hC, hS, he1]; rfl) ?_
                all_goals first
                  | omega
                  | exact hW _ _ ⟨[], [0, 1, 2], rfl, rfl, by simp [avCt, cCt], by simp⟩
                  | trace_state
              rintro ts mm ⟨rfl, rfl⟩
              repeat' with_reducible first
                | refine wp_regionS (seg_eval (by simp -dsimp -implicitDefEqProofs [avCt, cCt, spCt1, hd, hd2, hd4, hd5, h64, hx, hP, hH, hm, hml, ha2, ha3, ha5, ha6, hF, hFl, spApplyV, spSize, spEchoes, heq, hC, hS, he1]; rfl) ?_)
                | refine wp_region (seg_eval (by simp -dsimp -implicitDefEqProofs [avCt, cCt, spCt1, hd, hd2, hd4, hd5, h64, hx, hP, hH, hm, hml, ha2, ha3, ha5, ha6, hF, hFl, spApplyV, spSize, spEchoes, heq, hC, hS, he1]; rfl) ?_)
                | refine wp_drawsS (seg_eval (by simp -dsimp -implicitDefEqProofs [avCt, cCt, spCt1, hd, hd2, hd4, hd5, h64, hx, hP, hH, hm, hml, ha2, ha3, ha5, ha6, hF, hFl, spApplyV, spSize, spEchoes, heq, hC, hS, he1]; rfl) ?_)
                | refine wp_draws (seg_eval (by simp -dsimp -implicitDefEqProofs [avCt, cCt, spCt1, hd, hd2, hd4, hd5, h64, hx, hP, hH, hm, hml, ha2, ha3, ha5, ha6, hF, hFl, spApplyV, spSize, spEchoes, heq, hC, hS, he1]; rfl) ?_)
                | refine seg_fin ?_
                | refine seg_pan ?_
                | refine seg_both ?_ ?_
                | refine seg_case (fun x h => ?_) (fun h => ?_)
                | refine seg_gate (fun h => ?_) (fun h => ?_)
                | refine seg_need ?_ ?_
                | refine wp_assoc ?_ | refine wp_skipS ?_ | refine wp_retS ?_ | refine wp_exitS ?_ | refine wp_dropS (wp_eqT (by simp -dsimp -implicitDefEqProofs; rfl) ?_) | refine wp_sealS (by simp -dsimp -implicitDefEqProofs; rfl) ?_ | refine wp_seal (by simp -dsimp -implicitDefEqProofs; rfl) ?_ | refine wp_pack_out ?_ | refine wp_blockS ?_ | refine wp_skip' ?_ | refine wp_ret' ?_ | refine wp_exit' ?_ | refine wp_drop (wp_eqT (by simp -dsimp -implicitDefEqProofs; rfl) ?_) | refine wp_block' ?_
                | refine wp_condVS (by simp -dsimp -implicitDefEqProofs; rfl) ?_
                | refine wp_condV (by simp -dsimp -implicitDefEqProofs; rfl) ?_
                | refine cond_t ?_ | refine cond_f ?_ | refine cond_v (fun h => ?_) (fun h => ?_)
                | refine post_then ?_ | refine post_thenE ?_ | refine post_thenP ?_ | refine post_blkP ?_ | refine post_thenR ?_ | refine post_blkN ?_ | refine post_blkE ?_ | refine post_blkF rfl ?_ | refine post_blkR ?_
                | refine seg_eval (by simp -dsimp -implicitDefEqProofs [avCt, cCt, spCt1, hd, hd2, hd4, hd5, h64, hx, hP, hH, hm, hml, ha2, ha3, ha5, ha6, hF, hFl, spApplyV, spSize, spEchoes, heq, hC, hS, he1]; rfl) ?_
              all_goals first
                | omega
                | exact ⟨j - 1, by omega, [], [0, 1], rfl, rfl, i + 1, l', ca', ci', true, by omega, by omega, by omega, hpm, hinv', hch', by simp, .inr (by simp)⟩
                | trace_state
      · have hd4 : decide ((i : Int) < 60) = false := by rw [decide_eq_false_iff_not]; omega
        have hd5 : decide (i < 60) = false := by simp; omega
        rcases hmm with ⟨hl0, rfl⟩ | rfl
        all_goals (
          repeat' with_reducible first
            | refine wp_regionS (seg_eval (by simp -dsimp -implicitDefEqProofs [hd, hd2, hd4, hd5]; rfl) ?_)
            | refine wp_region (seg_eval (by simp -dsimp -implicitDefEqProofs [hd, hd2, hd4, hd5]; rfl) ?_)
            | refine wp_drawsS (seg_eval (by simp -dsimp -implicitDefEqProofs [hd, hd2, hd4, hd5]; rfl) ?_)
            | refine wp_draws (seg_eval (by simp -dsimp -implicitDefEqProofs [hd, hd2, hd4, hd5]; rfl) ?_)
            | refine seg_fin ?_
            | refine seg_pan ?_
            | refine seg_both ?_ ?_
            | refine seg_case (fun x h => ?_) (fun h => ?_)
            | refine seg_gate (fun h => ?_) (fun h => ?_)
            | refine seg_need ?_ ?_
            | refine wp_assoc ?_ | refine wp_skipS ?_ | refine wp_retS ?_ | refine wp_exitS ?_ | refine wp_dropS (wp_eqT (by simp -dsimp -implicitDefEqProofs; rfl) ?_) | refine wp_sealS (by simp -dsimp -implicitDefEqProofs; rfl) ?_ | refine wp_seal (by simp -dsimp -implicitDefEqProofs; rfl) ?_ | refine wp_pack_out ?_ | refine wp_blockS ?_ | refine wp_skip' ?_ | refine wp_ret' ?_ | refine wp_exit' ?_ | refine wp_drop (wp_eqT (by simp -dsimp -implicitDefEqProofs; rfl) ?_) | refine wp_block' ?_
            | refine wp_condVS (by simp -dsimp -implicitDefEqProofs; rfl) ?_
            | refine wp_condV (by simp -dsimp -implicitDefEqProofs; rfl) ?_
            | refine cond_t ?_ | refine cond_f ?_ | refine cond_v (fun h => ?_) (fun h => ?_)
            | refine post_then ?_ | refine post_thenE ?_ | refine post_thenP ?_ | refine post_blkP ?_ | refine post_thenR ?_ | refine post_blkN ?_ | refine post_blkE ?_ | refine post_blkF rfl ?_ | refine post_blkR ?_
            | refine seg_eval (by simp -dsimp -implicitDefEqProofs [hd, hd2, hd4, hd5]; rfl) ?_
          all_goals first
            | omega
            | exact post_fin rfl rfl ⟨[], [], rfl, rfl, rfl, rfl⟩
            | trace_state)
    · have hd : decide ((i : Int) < (ms.length : Int)) = false := by rw [decide_eq_false_iff_not]; omega
      have hd2 : decide (i < ms.length) = false := by simp [hlt]
      rcases hmm with ⟨hl0, rfl⟩ | rfl
      all_goals (
        repeat' with_reducible first
          | refine wp_regionS (seg_eval (by simp -dsimp -implicitDefEqProofs [hd, hd2]; rfl) ?_)
          | refine wp_region (seg_eval (by simp -dsimp -implicitDefEqProofs [hd, hd2]; rfl) ?_)
          | refine wp_drawsS (seg_eval (by simp -dsimp -implicitDefEqProofs [hd, hd2]; rfl) ?_)
          | refine wp_draws (seg_eval (by simp -dsimp -implicitDefEqProofs [hd, hd2]; rfl) ?_)
          | refine seg_fin ?_
          | refine seg_pan ?_
          | refine seg_both ?_ ?_
          | refine seg_case (fun x h => ?_) (fun h => ?_)
          | refine seg_gate (fun h => ?_) (fun h => ?_)
          | refine seg_need ?_ ?_
          | refine wp_assoc ?_ | refine wp_skipS ?_ | refine wp_retS ?_ | refine wp_exitS ?_ | refine wp_dropS (wp_eqT (by simp -dsimp -implicitDefEqProofs; rfl) ?_) | refine wp_sealS (by simp -dsimp -implicitDefEqProofs; rfl) ?_ | refine wp_seal (by simp -dsimp -implicitDefEqProofs; rfl) ?_ | refine wp_pack_out ?_ | refine wp_blockS ?_ | refine wp_skip' ?_ | refine wp_ret' ?_ | refine wp_exit' ?_ | refine wp_drop (wp_eqT (by simp -dsimp -implicitDefEqProofs; rfl) ?_) | refine wp_block' ?_
          | refine wp_condVS (by simp -dsimp -implicitDefEqProofs; rfl) ?_
          | refine wp_condV (by simp -dsimp -implicitDefEqProofs; rfl) ?_
          | refine cond_t ?_ | refine cond_f ?_ | refine cond_v (fun h => ?_) (fun h => ?_)
          | refine post_then ?_ | refine post_thenE ?_ | refine post_thenP ?_ | refine post_blkP ?_ | refine post_thenR ?_ | refine post_blkN ?_ | refine post_blkE ?_ | refine post_blkF rfl ?_ | refine post_blkR ?_
          | refine seg_eval (by simp -dsimp -implicitDefEqProofs [hd, hd2]; rfl) ?_
        all_goals first
          | omega
          | exact post_fin rfl rfl ⟨[], [], rfl, rfl, rfl, rfl⟩
          | trace_state)
end Go.Proofs.Ytbponegjfccgfaa.Am
