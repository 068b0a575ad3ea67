/-
  ANSWERS THAT THE DOCUMENT FIXES (ballot).
-/
import Derived.Test.YtbponegjfccgfaaB8
import Derived.Test.YtbponegjfccgfaaB9
import Derived.Test.YtbponegjfccgfaaCodeB
namespace Go.Proofs.Ytbponegjfccgfaa.Am
set_option linter.unusedSimpArgs false
set_option linter.unusedVariables false
open Go Go.Proofs
attribute [local irreducible] wpA
attribute [-simp] splice

def boxK (v : Int) (m : Nat) (l : List Ct) : Bool := rightV v m && (List.range l.length).all fun k => match l[k]? with
  | some c => decide ((applyV v m c.add c.id.toNat).2 = 0) && hasS m c.who.toNat && (k == 0 || match l[k - 1]? with | some p => decide (p.who < c.who) | none => true)
  | none => true
theorem boxK_ok {v : Int} {m : Nat} {l : List Ct} (h : boxK v m l = true) : boxB v m l = true := by
  unfold boxK at h
  rw [Bool.and_eq_true] at h
  refine box_yes ⟨h.1, fun k c hk => ?_⟩
  have hlt := (List.getElem?_eq_some_iff.1 hk).1
  have := List.all_eq_true.1 h.2 k (List.mem_range.2 hlt)
  rw [hk] at this
  simp only [Bool.and_eq_true, Bool.or_eq_true, beq_iff_eq, decide_eq_true_eq] at this
  refine ⟨this.1.1, this.1.2, fun h0 p hp => ?_⟩
  rcases this.2 with h | h
  · omega
  · rw [hp] at h; exact of_decide_eq_true h
def k1 : List Ct := [⟨2, true, 5⟩]
def k2 : List Ct := [⟨1, true, 5⟩, ⟨2, true, 5⟩]
def k3 : List Ct := [⟨0, true, 5⟩, ⟨1, true, 5⟩, ⟨2, true, 5⟩]
theorem kb0 : boxB 0 15 [] = true := boxK_ok (by decide)
theorem kb1 : boxB 0 15 k1 = true := boxK_ok (by decide)
theorem kb2 : boxB 0 15 k2 = true := boxK_ok (by decide)
theorem kb3 : boxB 0 15 k3 = true := boxK_ok (by decide)
theorem kp0 : putC 0 15 [] ⟨2, true, 5⟩ = (k1, 0) := by unfold putC; simp only [kb0]; decide
theorem kp1 : putC 0 15 k1 ⟨1, true, 5⟩ = (k2, 0) := by unfold putC; simp only [kb1]; decide
theorem kp2 : putC 0 15 k2 ⟨0, true, 5⟩ = (k3, 0) := by unfold putC; simp only [kb2]; decide
theorem kp3 : putC 0 15 k3 ⟨1, true, 5⟩ = (k3, 9) := by unfold putC; simp only [kb3]; decide
theorem kf1 : forC 0 15 k1 true 5 = 4 := by unfold forC; rw [if_pos kb1]; decide
theorem kf2 : forC 0 15 k2 true 5 = 6 := by unfold forC; rw [if_pos kb2]; decide
theorem kf3 : forC 0 15 k3 true 5 = 7 := by unfold forC; rw [if_pos kb3]; decide
theorem ke : echoesS ((sizeS 15 : Nat) : Int) = 3 := by decide
theorem kc0 : chosenC 0 15 [] = ((false, 0), false) := by simp [chosenC]
theorem ks : sizeS 4 = 1 ∧ sizeS 6 = 2 ∧ sizeS 7 = 3 := by decide
theorem kc1 : chosenC 0 15 k1 = ((false, 0), false) := by
  unfold chosenC
  rw [List.find?_eq_none.2 fun x hx => ?_]
  have e : x = ⟨2, true, 5⟩ := by simpa [k1] using hx
  subst e
  unfold goodC
  simp only [kf1, ke, ks]
  decide
theorem kc2 : chosenC 0 15 k2 = ((false, 0), false) := by
  unfold chosenC
  rw [List.find?_eq_none.2 fun x hx => ?_]
  have e : x = ⟨1, true, 5⟩ ∨ x = ⟨2, true, 5⟩ := by simpa [k2] using hx
  rcases e with rfl | rfl <;> (
    unfold goodC
    simp only [kf2, ke, ks]
    decide)
theorem kc3 : chosenC 0 15 k3 = ((true, 5), true) := by
  have hg : goodC 0 15 k3 (echoesS ((sizeS 15 : Nat) : Int)) ⟨0, true, 5⟩ = true := by
    unfold goodC
    simp only [kf3, ke, ks]
    decide
  have hx : k3[0]? = some ⟨0, true, 5⟩ := rfl
  unfold chosenC
  rw [(idx_some hx (fun k x hk => by omega) hg).2]
theorem kok : (∀ y ∈ k1, okCt y) ∧ (∀ y ∈ k2, okCt y) ∧ (∀ y ∈ k3, okCt y) := by
  refine ⟨fun y hy => ?_, fun y hy => ?_, fun y hy => ?_⟩
  · have e : y = ⟨2, true, 5⟩ := by simpa [k1] using hy
    subst e; unfold okCt; decide
  · have e : y = ⟨1, true, 5⟩ ∨ y = ⟨2, true, 5⟩ := by simpa [k2] using hy
    rcases e with rfl | rfl <;> (unfold okCt; decide)
  · have e : y = ⟨0, true, 5⟩ ∨ y = ⟨1, true, 5⟩ ∨ y = ⟨2, true, 5⟩ := by simpa [k3] using hy
    rcases e with rfl | rfl | rfl <;> (unfold okCt; decide)
theorem kl : k1.length = 1 ∧ k2.length = 2 ∧ k3.length = 3 := ⟨rfl, rfl, rfl⟩

def spAliveB : Spec
  | [], [] => some (.ret (.v (.bool true)), [])
  | _, _ => none
set_option maxHeartbeats 16000000 in
theorem alive12_ok : CallOk Try.prog 24 spAliveB := by
  refine ok_24 (Env.put_ok [] (Env.put_ok [] (Env.put_ok [] (Env.none_ok _) (CallOk.fixD [.agg [.no, .no, .k 3]] chosen_ok)) (CallOk.fixD [.agg [.no, .no, .k 3]] putC_ok)) (CallOk.fixD [.agg [.no, .no, .k 3]] forC_ok)) spAliveB fun args mem r mem1 h => ?_
  unfold spAliveB at h
  split at h
  case h_2 => cases h
  cases h
  obtain ⟨o1, o2, o3⟩ := kok
  obtain ⟨l1, l2, l3⟩ := kl
  have oc : okCt ⟨2, true, 5⟩ ∧ okCt ⟨1, true, 5⟩ ∧ okCt ⟨0, true, 5⟩ := by unfold okCt; decide
  obtain ⟨oc2, oc1, oc0⟩ := oc
  have ha0 := putCAt 0 15 [] 2 true 5
  have ha1 := putCAt 0 15 k1 1 true 5
  have ha2 := putCAt 0 15 k2 0 true 5
  have ha3 := putCAt 0 15 k3 1 true 5
  have hb0 := chosenAt 0 15 []
  have hb1 := chosenAt 0 15 k1
  have hb2 := chosenAt 0 15 k2
  have hb3 := chosenAt 0 15 k3
  have hf3 := forCAt 0 15 k3 true 5
  rw [if_pos ⟨by decide, by simp, by simp, oc2⟩, kp0] at ha0
  rw [if_pos ⟨by decide, by omega, o1, oc1⟩, kp1] at ha1
  rw [if_pos ⟨by decide, by omega, o2, oc0⟩, kp2] at ha2
  rw [if_pos ⟨by decide, by omega, o3, oc1⟩, kp3] at ha3
  rw [if_pos ⟨by decide, by simp, by simp⟩, kc0] at hb0
  rw [if_pos ⟨by decide, by omega, o1⟩, kc1] at hb1
  rw [if_pos ⟨by decide, by omega, o2⟩, kc2] at hb2
  rw [if_pos ⟨by decide, by omega, o3⟩, kc3] at hb3
  rw [if_pos ⟨by decide, by omega, o3⟩, kf3] at hf3
  have e15 : ((15 : Nat) : Int) = 15 := rfl
  have e7 : ((7 : Nat) : Int) = 7 := rfl
  simp only [List.map_nil, e15, e7] at ha0 ha1 ha2 ha3 hb0 hb1 hb2 hb3 hf3
  have w0 : IntKind.wrap .u8 0 = 0 := by decide
  have w1 : IntKind.wrap .u8 1 = 1 := by decide
  have w2 : IntKind.wrap .u8 2 = 2 := by decide
  have w3 : IntKind.wrap .u8 3 = 3 := by decide
  unfold ac_24
  repeat' first
      | with_reducible refine wp_regionS (seg_eval (by simp -dsimp -implicitDefEqProofs; rfl) ?_)
      | with_reducible refine wp_region (seg_eval (by simp -dsimp -implicitDefEqProofs; rfl) ?_)
      | with_reducible refine wp_drawsS (seg_eval (by simp -dsimp -implicitDefEqProofs; rfl) ?_)
      | with_reducible refine wp_draws (seg_eval (by simp -dsimp -implicitDefEqProofs; rfl) ?_)
      | with_reducible refine seg_fin ?_
      | with_reducible refine seg_pan ?_
      | with_reducible refine seg_both ?_ ?_
      | with_reducible refine seg_case (fun x h => ?_) (fun h => ?_)
      | with_reducible refine seg_gate (fun h => ?_) (fun h => ?_)
      | with_reducible refine seg_need ?_ ?_
      | with_reducible refine wp_assoc ?_ | with_reducible refine wp_skipS ?_ | with_reducible refine wp_retS ?_ | with_reducible refine wp_exitS ?_ | with_reducible refine wp_dropS (wp_eqT (by simp -dsimp -implicitDefEqProofs; rfl) ?_) | with_reducible refine wp_sealS (by simp -dsimp -implicitDefEqProofs; rfl) ?_ | with_reducible refine wp_seal (by simp -dsimp -implicitDefEqProofs; rfl) ?_ | with_reducible refine wp_closeS (by simp -dsimp -implicitDefEqProofs; rfl) ?_ | with_reducible refine wp_close (by simp -dsimp -implicitDefEqProofs; rfl) ?_ | with_reducible refine wp_conc_out ?_ | with_reducible refine wp_open_out ?_ | with_reducible refine wp_pack_out ?_ | with_reducible refine wp_blockS ?_ | with_reducible refine wp_skip' ?_ | with_reducible refine wp_ret' ?_ | with_reducible refine wp_exit' ?_ | with_reducible refine wp_drop (wp_eqT (by simp -dsimp -implicitDefEqProofs; rfl) ?_) | with_reducible refine wp_block' ?_
      | with_reducible refine wp_condVS (by simp -dsimp -implicitDefEqProofs; rfl) ?_
      | with_reducible refine wp_condV (by simp -dsimp -implicitDefEqProofs; rfl) ?_
      | with_reducible refine cond_t ?_ | with_reducible refine cond_f ?_ | with_reducible refine cond_v (fun h => ?_) (fun h => ?_)
      | with_reducible refine post_then ?_ | with_reducible refine post_thenE ?_ | with_reducible refine post_thenP ?_ | with_reducible refine post_blkP ?_ | with_reducible refine post_thenR ?_ | with_reducible refine post_blkN ?_ | with_reducible refine post_blkE ?_ | with_reducible refine post_blkF rfl ?_ | with_reducible refine post_blkR ?_
      | with_reducible refine seg_eval (by simp -dsimp -implicitDefEqProofs; rfl) ?_
  refine wp_loop' (fun j ts mm => (j = 3 ∧ ts = [(1, .ptr 0 0 0), (2, .fptr (.agg [.v (.bool true), .v (.int .u8 5)]) 0), (15, .v (.int .u8 0))] ∧ mm = [.var [.v (.int .i64 0), .v (.int .u16 15), .v (.slice none 0 0)]]) ∨
    (j = 2 ∧ ts = [(1, .ptr 0 0 0), (2, .fptr (.agg [.v (.bool true), .v (.int .u8 5)]) 0), (15, .v (.int .u8 1))] ∧ mm = [.var [.v (.int .i64 0), .v (.int .u16 15), .fsl 3 (k1.map avCt)]]) ∨
    (j = 1 ∧ ts = [(1, .ptr 0 0 0), (2, .fptr (.agg [.v (.bool true), .v (.int .u8 5)]) 0), (15, .v (.int .u8 2))] ∧ mm = [.var [.v (.int .i64 0), .v (.int .u16 15), .fsl 3 (k2.map avCt)]]) ∨
    (j = 0 ∧ ts = [(1, .ptr 0 0 0), (2, .fptr (.agg [.v (.bool true), .v (.int .u8 5)]) 0), (15, .v (.int .u8 3))] ∧ mm = [.var [.v (.int .i64 0), .v (.int .u16 15), .fsl 3 (k3.map avCt)]])) 3 ?_ ?_
  · exact ⟨[], [0], rfl, rfl, .inl ⟨rfl, by simp, by simp⟩⟩
  · rintro j ts mm (⟨rfl, rfl, rfl⟩ | ⟨rfl, rfl, rfl⟩ | ⟨rfl, rfl, rfl⟩ | ⟨rfl, rfl, rfl⟩)
    · repeat' first
          | with_reducible refine wp_regionS (seg_eval (by simp -dsimp -implicitDefEqProofs [ha0, hb0, w0, w1, w2, w3]; rfl) ?_)
          | with_reducible refine wp_region (seg_eval (by simp -dsimp -implicitDefEqProofs [ha0, hb0, w0, w1, w2, w3]; rfl) ?_)
          | with_reducible refine wp_drawsS (seg_eval (by simp -dsimp -implicitDefEqProofs [ha0, hb0, w0, w1, w2, w3]; rfl) ?_)
          | with_reducible refine wp_draws (seg_eval (by simp -dsimp -implicitDefEqProofs [ha0, hb0, w0, w1, w2, w3]; rfl) ?_)
          | with_reducible refine seg_fin ?_
          | with_reducible refine seg_pan ?_
          | with_reducible refine seg_both ?_ ?_
          | with_reducible refine seg_case (fun x h => ?_) (fun h => ?_)
          | with_reducible refine seg_gate (fun h => ?_) (fun h => ?_)
          | with_reducible refine seg_need ?_ ?_
          | with_reducible refine wp_assoc ?_ | with_reducible refine wp_skipS ?_ | with_reducible refine wp_retS ?_ | with_reducible refine wp_exitS ?_ | with_reducible refine wp_dropS (wp_eqT (by simp -dsimp -implicitDefEqProofs [ha0, hb0, w0, w1, w2, w3]; rfl) ?_) | with_reducible refine wp_sealS (by simp -dsimp -implicitDefEqProofs [ha0, hb0, w0, w1, w2, w3]; rfl) ?_ | with_reducible refine wp_seal (by simp -dsimp -implicitDefEqProofs [ha0, hb0, w0, w1, w2, w3]; rfl) ?_ | with_reducible refine wp_closeS (by simp -dsimp -implicitDefEqProofs [ha0, hb0, w0, w1, w2, w3]; rfl) ?_ | with_reducible refine wp_close (by simp -dsimp -implicitDefEqProofs [ha0, hb0, w0, w1, w2, w3]; rfl) ?_ | with_reducible refine wp_conc_out ?_ | with_reducible refine wp_open_out ?_ | with_reducible refine wp_pack_out ?_ | with_reducible refine wp_blockS ?_ | with_reducible refine wp_skip' ?_ | with_reducible refine wp_ret' ?_ | with_reducible refine wp_exit' ?_ | with_reducible refine wp_drop (wp_eqT (by simp -dsimp -implicitDefEqProofs [ha0, hb0, w0, w1, w2, w3]; rfl) ?_) | with_reducible refine wp_block' ?_
          | with_reducible refine wp_condVS (by simp -dsimp -implicitDefEqProofs [ha0, hb0, w0, w1, w2, w3]; rfl) ?_
          | with_reducible refine wp_condV (by simp -dsimp -implicitDefEqProofs [ha0, hb0, w0, w1, w2, w3]; rfl) ?_
          | with_reducible refine cond_t ?_ | with_reducible refine cond_f ?_ | with_reducible refine cond_v (fun h => ?_) (fun h => ?_)
          | with_reducible refine post_then ?_ | with_reducible refine post_thenE ?_ | with_reducible refine post_thenP ?_ | with_reducible refine post_blkP ?_ | with_reducible refine post_thenR ?_ | with_reducible refine post_blkN ?_ | with_reducible refine post_blkE ?_ | with_reducible refine post_blkF rfl ?_ | with_reducible refine post_blkR ?_
          | with_reducible refine seg_eval (by simp -dsimp -implicitDefEqProofs [ha0, hb0, w0, w1, w2, w3]; rfl) ?_
      all_goals first
        | exact ⟨2, by omega, [], [0], rfl, rfl, .inr (.inl ⟨rfl, by simp, by simp⟩)⟩
        | trace_state
    · repeat' first
          | with_reducible refine wp_regionS (seg_eval (by simp -dsimp -implicitDefEqProofs [ha1, hb1, w0, w1, w2, w3]; rfl) ?_)
          | with_reducible refine wp_region (seg_eval (by simp -dsimp -implicitDefEqProofs [ha1, hb1, w0, w1, w2, w3]; rfl) ?_)
          | with_reducible refine wp_drawsS (seg_eval (by simp -dsimp -implicitDefEqProofs [ha1, hb1, w0, w1, w2, w3]; rfl) ?_)
          | with_reducible refine wp_draws (seg_eval (by simp -dsimp -implicitDefEqProofs [ha1, hb1, w0, w1, w2, w3]; rfl) ?_)
          | with_reducible refine seg_fin ?_
          | with_reducible refine seg_pan ?_
          | with_reducible refine seg_both ?_ ?_
          | with_reducible refine seg_case (fun x h => ?_) (fun h => ?_)
          | with_reducible refine seg_gate (fun h => ?_) (fun h => ?_)
          | with_reducible refine seg_need ?_ ?_
          | with_reducible refine wp_assoc ?_ | with_reducible refine wp_skipS ?_ | with_reducible refine wp_retS ?_ | with_reducible refine wp_exitS ?_ | with_reducible refine wp_dropS (wp_eqT (by simp -dsimp -implicitDefEqProofs [ha1, hb1, w0, w1, w2, w3]; rfl) ?_) | with_reducible refine wp_sealS (by simp -dsimp -implicitDefEqProofs [ha1, hb1, w0, w1, w2, w3]; rfl) ?_ | with_reducible refine wp_seal (by simp -dsimp -implicitDefEqProofs [ha1, hb1, w0, w1, w2, w3]; rfl) ?_ | with_reducible refine wp_closeS (by simp -dsimp -implicitDefEqProofs [ha1, hb1, w0, w1, w2, w3]; rfl) ?_ | with_reducible refine wp_close (by simp -dsimp -implicitDefEqProofs [ha1, hb1, w0, w1, w2, w3]; rfl) ?_ | with_reducible refine wp_conc_out ?_ | with_reducible refine wp_open_out ?_ | with_reducible refine wp_pack_out ?_ | with_reducible refine wp_blockS ?_ | with_reducible refine wp_skip' ?_ | with_reducible refine wp_ret' ?_ | with_reducible refine wp_exit' ?_ | with_reducible refine wp_drop (wp_eqT (by simp -dsimp -implicitDefEqProofs [ha1, hb1, w0, w1, w2, w3]; rfl) ?_) | with_reducible refine wp_block' ?_
          | with_reducible refine wp_condVS (by simp -dsimp -implicitDefEqProofs [ha1, hb1, w0, w1, w2, w3]; rfl) ?_
          | with_reducible refine wp_condV (by simp -dsimp -implicitDefEqProofs [ha1, hb1, w0, w1, w2, w3]; rfl) ?_
          | with_reducible refine cond_t ?_ | with_reducible refine cond_f ?_ | with_reducible refine cond_v (fun h => ?_) (fun h => ?_)
          | with_reducible refine post_then ?_ | with_reducible refine post_thenE ?_ | with_reducible refine post_thenP ?_ | with_reducible refine post_blkP ?_ | with_reducible refine post_thenR ?_ | with_reducible refine post_blkN ?_ | with_reducible refine post_blkE ?_ | with_reducible refine post_blkF rfl ?_ | with_reducible refine post_blkR ?_
          | with_reducible refine seg_eval (by simp -dsimp -implicitDefEqProofs [ha1, hb1, w0, w1, w2, w3]; rfl) ?_
      all_goals first
        | exact ⟨1, by omega, [], [0], rfl, rfl, .inr (.inr (.inl ⟨rfl, by simp, by simp⟩))⟩
        | trace_state
    · repeat' first
          | with_reducible refine wp_regionS (seg_eval (by simp -dsimp -implicitDefEqProofs [ha2, hb2, w0, w1, w2, w3]; rfl) ?_)
          | with_reducible refine wp_region (seg_eval (by simp -dsimp -implicitDefEqProofs [ha2, hb2, w0, w1, w2, w3]; rfl) ?_)
          | with_reducible refine wp_drawsS (seg_eval (by simp -dsimp -implicitDefEqProofs [ha2, hb2, w0, w1, w2, w3]; rfl) ?_)
          | with_reducible refine wp_draws (seg_eval (by simp -dsimp -implicitDefEqProofs [ha2, hb2, w0, w1, w2, w3]; rfl) ?_)
          | with_reducible refine seg_fin ?_
          | with_reducible refine seg_pan ?_
          | with_reducible refine seg_both ?_ ?_
          | with_reducible refine seg_case (fun x h => ?_) (fun h => ?_)
          | with_reducible refine seg_gate (fun h => ?_) (fun h => ?_)
          | with_reducible refine seg_need ?_ ?_
          | with_reducible refine wp_assoc ?_ | with_reducible refine wp_skipS ?_ | with_reducible refine wp_retS ?_ | with_reducible refine wp_exitS ?_ | with_reducible refine wp_dropS (wp_eqT (by simp -dsimp -implicitDefEqProofs [ha2, hb2, w0, w1, w2, w3]; rfl) ?_) | with_reducible refine wp_sealS (by simp -dsimp -implicitDefEqProofs [ha2, hb2, w0, w1, w2, w3]; rfl) ?_ | with_reducible refine wp_seal (by simp -dsimp -implicitDefEqProofs [ha2, hb2, w0, w1, w2, w3]; rfl) ?_ | with_reducible refine wp_closeS (by simp -dsimp -implicitDefEqProofs [ha2, hb2, w0, w1, w2, w3]; rfl) ?_ | with_reducible refine wp_close (by simp -dsimp -implicitDefEqProofs [ha2, hb2, w0, w1, w2, w3]; rfl) ?_ | with_reducible refine wp_conc_out ?_ | with_reducible refine wp_open_out ?_ | with_reducible refine wp_pack_out ?_ | with_reducible refine wp_blockS ?_ | with_reducible refine wp_skip' ?_ | with_reducible refine wp_ret' ?_ | with_reducible refine wp_exit' ?_ | with_reducible refine wp_drop (wp_eqT (by simp -dsimp -implicitDefEqProofs [ha2, hb2, w0, w1, w2, w3]; rfl) ?_) | with_reducible refine wp_block' ?_
          | with_reducible refine wp_condVS (by simp -dsimp -implicitDefEqProofs [ha2, hb2, w0, w1, w2, w3]; rfl) ?_
          | with_reducible refine wp_condV (by simp -dsimp -implicitDefEqProofs [ha2, hb2, w0, w1, w2, w3]; rfl) ?_
          | with_reducible refine cond_t ?_ | with_reducible refine cond_f ?_ | with_reducible refine cond_v (fun h => ?_) (fun h => ?_)
          | with_reducible refine post_then ?_ | with_reducible refine post_thenE ?_ | with_reducible refine post_thenP ?_ | with_reducible refine post_blkP ?_ | with_reducible refine post_thenR ?_ | with_reducible refine post_blkN ?_ | with_reducible refine post_blkE ?_ | with_reducible refine post_blkF rfl ?_ | with_reducible refine post_blkR ?_
          | with_reducible refine seg_eval (by simp -dsimp -implicitDefEqProofs [ha2, hb2, w0, w1, w2, w3]; rfl) ?_
      all_goals first
        | exact ⟨0, by omega, [], [0], rfl, rfl, .inr (.inr (.inr ⟨rfl, by simp, by simp⟩))⟩
        | trace_state
    · repeat' first
          | with_reducible refine wp_regionS (seg_eval (by simp -dsimp -implicitDefEqProofs [ha3, hb3, hf3, eqCells_bi]; rfl) ?_)
          | with_reducible refine wp_region (seg_eval (by simp -dsimp -implicitDefEqProofs [ha3, hb3, hf3, eqCells_bi]; rfl) ?_)
          | with_reducible refine wp_drawsS (seg_eval (by simp -dsimp -implicitDefEqProofs [ha3, hb3, hf3, eqCells_bi]; rfl) ?_)
          | with_reducible refine wp_draws (seg_eval (by simp -dsimp -implicitDefEqProofs [ha3, hb3, hf3, eqCells_bi]; rfl) ?_)
          | with_reducible refine seg_fin ?_
          | with_reducible refine seg_pan ?_
          | with_reducible refine seg_both ?_ ?_
          | with_reducible refine seg_case (fun x h => ?_) (fun h => ?_)
          | with_reducible refine seg_gate (fun h => ?_) (fun h => ?_)
          | with_reducible refine seg_need ?_ ?_
          | with_reducible refine wp_assoc ?_ | with_reducible refine wp_skipS ?_ | with_reducible refine wp_retS ?_ | with_reducible refine wp_exitS ?_ | with_reducible refine wp_dropS (wp_eqT (by simp -dsimp -implicitDefEqProofs [ha3, hb3, hf3, eqCells_bi]; rfl) ?_) | with_reducible refine wp_sealS (by simp -dsimp -implicitDefEqProofs [ha3, hb3, hf3, eqCells_bi]; rfl) ?_ | with_reducible refine wp_seal (by simp -dsimp -implicitDefEqProofs [ha3, hb3, hf3, eqCells_bi]; rfl) ?_ | with_reducible refine wp_closeS (by simp -dsimp -implicitDefEqProofs [ha3, hb3, hf3, eqCells_bi]; rfl) ?_ | with_reducible refine wp_close (by simp -dsimp -implicitDefEqProofs [ha3, hb3, hf3, eqCells_bi]; rfl) ?_ | with_reducible refine wp_conc_out ?_ | with_reducible refine wp_open_out ?_ | with_reducible refine wp_pack_out ?_ | with_reducible refine wp_blockS ?_ | with_reducible refine wp_skip' ?_ | with_reducible refine wp_ret' ?_ | with_reducible refine wp_exit' ?_ | with_reducible refine wp_drop (wp_eqT (by simp -dsimp -implicitDefEqProofs [ha3, hb3, hf3, eqCells_bi]; rfl) ?_) | with_reducible refine wp_block' ?_
          | with_reducible refine wp_condVS (by simp -dsimp -implicitDefEqProofs [ha3, hb3, hf3, eqCells_bi]; rfl) ?_
          | with_reducible refine wp_condV (by simp -dsimp -implicitDefEqProofs [ha3, hb3, hf3, eqCells_bi]; rfl) ?_
          | with_reducible refine cond_t ?_ | with_reducible refine cond_f ?_ | with_reducible refine cond_v (fun h => ?_) (fun h => ?_)
          | with_reducible refine post_then ?_ | with_reducible refine post_thenE ?_ | with_reducible refine post_thenP ?_ | with_reducible refine post_blkP ?_ | with_reducible refine post_thenR ?_ | with_reducible refine post_blkN ?_ | with_reducible refine post_blkE ?_ | with_reducible refine post_blkF rfl ?_ | with_reducible refine post_blkR ?_
          | with_reducible refine seg_eval (by simp -dsimp -implicitDefEqProofs [ha3, hb3, hf3, eqCells_bi]; rfl) ?_
      all_goals first
        | exact post_fin rfl rfl ⟨[], [], rfl, rfl, rfl, rfl⟩
        | trace_state
end Go.Proofs.Ytbponegjfccgfaa.Am
namespace Go.Proofs.Ytbponegjfccgfaa.Am
set_option linter.unusedSimpArgs false
set_option linter.unusedVariables false
open Go Go.Proofs
attribute [local irreducible] wpA
attribute [-simp] splice

theorem putC_mem {v : Int} {m : Nat} {l : List Ct} {c y : Ct} (h : y ∈ (putC v m l c).1) : y = c ∨ y ∈ l := by
  unfold putC at h
  split at h
  · exact .inr h
  · split at h
    · exact .inr h
    · split at h
      · exact .inr h
      · split at h
        · exact .inr h
        · exact mem_insK.1 h
theorem putC_len (v : Int) (m : Nat) (l : List Ct) (c : Ct) : (putC v m l c).1.length ≤ l.length + 1 := by
  unfold putC
  split
  · simp
  · split
    · simp
    · split
      · simp
      · split
        · simp
        · rw [insK_length]; exact Nat.le_refl _
noncomputable def spBallotPuts : Spec := spc (X := Int × Nat × List Ct × Ct) (fun p => ([avBox p.1 p.2.1 p.2.2.1, avCt p.2.2.2], []))
  (fun p => p.2.1 < 65536 ∧ (∀ y ∈ p.2.2.1, okCt y) ∧ okCt p.2.2.2) (fun _ => (.ret (.v (.bool true)), []))

set_option maxHeartbeats 16000000 in
theorem ballotPuts_ok : CallOk Try.prog 8 spBallotPuts := by
  refine ok_8 (Env.put_ok [] (Env.put_ok [] (Env.put_ok [] (Env.put_ok [] (Env.put_ok [] (Env.put_ok [] (Env.put_ok [] (Env.put_ok [] (Env.put_ok [] (Env.put_ok [] (Env.put_ok [] (Env.none_ok _) alive12_ok) theirsC_ok) oursC_ok) theirs1_ok) putC_ok) putCR_ok) chosen_ok) chosenR_ok) sameC_ok) forC_ok) forCR_ok) spBallotPuts (wb_spc ?_)
  rintro ⟨v, m, l, ⟨w, a, d⟩⟩ ⟨hm, hok, hc⟩
  simp only [avBox, avCt, cCt] at hm hok hc ⊢
  have hml : (m : Int) < 65536 := by omega
  unfold ac_8
  by_cases h60 : 60 < l.length
  · have c1 : decide ((60 : Int) < (l.length : Int)) = true := by rw [decide_eq_true_eq]; omega
    have c1n : decide (60 < l.length) = true := by simp [h60]
    repeat' first
        | with_reducible refine wp_regionS (seg_eval (by simp -dsimp -implicitDefEqProofs [spAliveB, c1, c1n]; rfl) ?_)
        | with_reducible refine wp_region (seg_eval (by simp -dsimp -implicitDefEqProofs [spAliveB, c1, c1n]; rfl) ?_)
        | with_reducible refine wp_drawsS (seg_eval (by simp -dsimp -implicitDefEqProofs [spAliveB, c1, c1n]; rfl) ?_)
        | with_reducible refine wp_draws (seg_eval (by simp -dsimp -implicitDefEqProofs [spAliveB, c1, c1n]; rfl) ?_)
        | with_reducible refine seg_fin ?_
        | with_reducible refine seg_pan ?_
        | with_reducible refine seg_both ?_ ?_
        | with_reducible refine seg_case (fun x h => ?_) (fun h => ?_)
        | with_reducible refine seg_gate (fun h => ?_) (fun h => ?_)
        | with_reducible refine seg_need ?_ ?_
        | with_reducible refine wp_assoc ?_ | with_reducible refine wp_skipS ?_ | with_reducible refine wp_retS ?_ | with_reducible refine wp_exitS ?_ | with_reducible refine wp_dropS (wp_eqT (by simp -dsimp -implicitDefEqProofs [spAliveB, c1, c1n]; rfl) ?_) | with_reducible refine wp_sealS (by simp -dsimp -implicitDefEqProofs [spAliveB, c1, c1n]; rfl) ?_ | with_reducible refine wp_seal (by simp -dsimp -implicitDefEqProofs [spAliveB, c1, c1n]; rfl) ?_ | with_reducible refine wp_closeS (by simp -dsimp -implicitDefEqProofs [spAliveB, c1, c1n]; rfl) ?_ | with_reducible refine wp_close (by simp -dsimp -implicitDefEqProofs [spAliveB, c1, c1n]; rfl) ?_ | with_reducible refine wp_conc_out ?_ | with_reducible refine wp_open_out ?_ | with_reducible refine wp_pack_out ?_ | with_reducible refine wp_blockS ?_ | with_reducible refine wp_skip' ?_ | with_reducible refine wp_ret' ?_ | with_reducible refine wp_exit' ?_ | with_reducible refine wp_drop (wp_eqT (by simp -dsimp -implicitDefEqProofs [spAliveB, c1, c1n]; rfl) ?_) | with_reducible refine wp_block' ?_
        | with_reducible refine wp_condVS (by simp -dsimp -implicitDefEqProofs [spAliveB, c1, c1n]; rfl) ?_
        | with_reducible refine wp_condV (by simp -dsimp -implicitDefEqProofs [spAliveB, c1, c1n]; rfl) ?_
        | with_reducible refine cond_t ?_ | with_reducible refine cond_f ?_ | with_reducible refine cond_v (fun h => ?_) (fun h => ?_)
        | with_reducible refine post_then ?_ | with_reducible refine post_thenE ?_ | with_reducible refine post_thenP ?_ | with_reducible refine post_blkP ?_ | with_reducible refine post_thenR ?_ | with_reducible refine post_blkN ?_ | with_reducible refine post_blkE ?_ | with_reducible refine post_blkF rfl ?_ | with_reducible refine post_blkR ?_
        | with_reducible refine seg_eval (by simp -dsimp -implicitDefEqProofs [spAliveB, c1, c1n]; rfl) ?_
    all_goals first
      | exact post_fin rfl rfl ⟨[], [], rfl, rfl, rfl, rfl⟩
      | trace_state
  · have c1 : decide ((60 : Int) < (l.length : Int)) = false := by rw [decide_eq_false_iff_not]; omega
    have c1n : decide (60 < l.length) = false := by simp; omega
    have hP := putCAt v m l w a d
    rw [if_pos ⟨hm, by omega, hok, hc⟩] at hP
    have hC := convCAt v m l
    rw [if_pos (by omega)] at hC
    have hpl := putC_len v m l ⟨w, a, d⟩
    have hC2 := convCAt v m (putC v m l ⟨w, a, d⟩).1
    rw [if_pos (by omega)] at hC2
    have hS := sameCAt v m (putC v m l ⟨w, a, d⟩).1 v m (putC v m l ⟨w, a, d⟩).1
    rw [if_pos ⟨by omega, by omega⟩, sameC_iff.2 ⟨rfl, rfl, rfl⟩] at hS
    have hF := forCAt v m l a d
    rw [if_pos ⟨hm, by omega, hok⟩] at hF
    have hH := chosenAt v m l
    rw [if_pos ⟨hm, by omega, hok⟩] at hH
    generalize putC v m l ⟨w, a, d⟩ = p at *
    obtain ⟨l', e⟩ := p
    generalize forC v m l a d = f at *
    generalize chosenC v m l = ch at *
    obtain ⟨⟨ca, ci⟩, cb⟩ := ch
    simp only at hP hC2 hS hF hH
    repeat' first
        | with_reducible refine wp_regionS (seg_eval (by simp -dsimp -implicitDefEqProofs [spAliveB, spCt1, c1, c1n, hP, hC, hC2, hS, hF, hH, eqCells_bi]; rfl) ?_)
        | with_reducible refine wp_region (seg_eval (by simp -dsimp -implicitDefEqProofs [spAliveB, spCt1, c1, c1n, hP, hC, hC2, hS, hF, hH, eqCells_bi]; rfl) ?_)
        | with_reducible refine wp_drawsS (seg_eval (by simp -dsimp -implicitDefEqProofs [spAliveB, spCt1, c1, c1n, hP, hC, hC2, hS, hF, hH, eqCells_bi]; rfl) ?_)
        | with_reducible refine wp_draws (seg_eval (by simp -dsimp -implicitDefEqProofs [spAliveB, spCt1, c1, c1n, hP, hC, hC2, hS, hF, hH, eqCells_bi]; rfl) ?_)
        | with_reducible refine seg_fin ?_
        | with_reducible refine seg_pan ?_
        | with_reducible refine seg_both ?_ ?_
        | with_reducible refine seg_case (fun x h => ?_) (fun h => ?_)
        | with_reducible refine seg_gate (fun h => ?_) (fun h => ?_)
        | with_reducible refine seg_need ?_ ?_
        | with_reducible refine wp_assoc ?_ | with_reducible refine wp_skipS ?_ | with_reducible refine wp_retS ?_ | with_reducible refine wp_exitS ?_ | with_reducible refine wp_dropS (wp_eqT (by simp -dsimp -implicitDefEqProofs [spAliveB, spCt1, c1, c1n, hP, hC, hC2, hS, hF, hH, eqCells_bi]; rfl) ?_) | with_reducible refine wp_sealS (by simp -dsimp -implicitDefEqProofs [spAliveB, spCt1, c1, c1n, hP, hC, hC2, hS, hF, hH, eqCells_bi]; rfl) ?_ | with_reducible refine wp_seal (by simp -dsimp -implicitDefEqProofs [spAliveB, spCt1, c1, c1n, hP, hC, hC2, hS, hF, hH, eqCells_bi]; rfl) ?_ | with_reducible refine wp_closeS (by simp -dsimp -implicitDefEqProofs [spAliveB, spCt1, c1, c1n, hP, hC, hC2, hS, hF, hH, eqCells_bi]; rfl) ?_ | with_reducible refine wp_close (by simp -dsimp -implicitDefEqProofs [spAliveB, spCt1, c1, c1n, hP, hC, hC2, hS, hF, hH, eqCells_bi]; rfl) ?_ | with_reducible refine wp_conc_out ?_ | with_reducible refine wp_open_out ?_ | with_reducible refine wp_pack_out ?_ | with_reducible refine wp_blockS ?_ | with_reducible refine wp_skip' ?_ | with_reducible refine wp_ret' ?_ | with_reducible refine wp_exit' ?_ | with_reducible refine wp_drop (wp_eqT (by simp -dsimp -implicitDefEqProofs [spAliveB, spCt1, c1, c1n, hP, hC, hC2, hS, hF, hH, eqCells_bi]; rfl) ?_) | with_reducible refine wp_block' ?_
        | with_reducible refine wp_condVS (by simp -dsimp -implicitDefEqProofs [spAliveB, spCt1, c1, c1n, hP, hC, hC2, hS, hF, hH, eqCells_bi]; rfl) ?_
        | with_reducible refine wp_condV (by simp -dsimp -implicitDefEqProofs [spAliveB, spCt1, c1, c1n, hP, hC, hC2, hS, hF, hH, eqCells_bi]; rfl) ?_
        | with_reducible refine cond_t ?_ | with_reducible refine cond_f ?_ | with_reducible refine cond_v (fun h => ?_) (fun h => ?_)
        | with_reducible refine post_then ?_ | with_reducible refine post_thenE ?_ | with_reducible refine post_thenP ?_ | with_reducible refine post_blkP ?_ | with_reducible refine post_thenR ?_ | with_reducible refine post_blkN ?_ | with_reducible refine post_blkE ?_ | with_reducible refine post_blkF rfl ?_ | with_reducible refine post_blkR ?_
        | with_reducible refine seg_eval (by simp -dsimp -implicitDefEqProofs [spAliveB, spCt1, c1, c1n, hP, hC, hC2, hS, hF, hH, eqCells_bi]; rfl) ?_
    all_goals first
      | exact post_fin rfl rfl ⟨[], [], rfl, rfl, rfl, rfl⟩
      | trace_state
end Go.Proofs.Ytbponegjfccgfaa.Am
