/-
  WHICH BOXES MAY BE, on both sides.
-/
import Derived.Test.YtbponegjfccgfaaB2L
import Derived.Test.YtbponegjfccgfaaB2R
import Derived.Test.YtbponegjfccgfaaECt
namespace Go.Proofs.Ytbponegjfccgfaa.Am
set_option linter.unusedSimpArgs false
set_option linter.unusedVariables false
open Go Go.Proofs
attribute [local irreducible] wpA
attribute [-simp] splice

def CtF (v : Int) (m : Nat) (l : List Ct) : Prop := ∀ i c, l[i]? = some c → (applyV v m c.add c.id.toNat).2 = 0 ∧ hasS m c.who.toNat = true ∧ (0 < i → ∀ p, l[i - 1]? = some p → p.who < c.who)
def BoxF (v : Int) (m : Nat) (l : List Ct) : Prop := rightV v m = true ∧ CtF v m l
open Classical in
noncomputable def boxB (v : Int) (m : Nat) (l : List Ct) : Bool := decide (BoxF v m l)
open Classical in
theorem box_yes {v : Int} {m : Nat} {l : List Ct} (h : BoxF v m l) : boxB v m l = true := by unfold boxB; exact decide_eq_true h
open Classical in
theorem box_no {v : Int} {m : Nat} {l : List Ct} (h : ¬ BoxF v m l) : boxB v m l = false := by unfold boxB; exact decide_eq_false h
open Classical in
theorem box_iff {v : Int} {m : Nat} {l : List Ct} : boxB v m l = true ↔ BoxF v m l := by unfold boxB; exact decide_eq_true_iff

def avBox (v : Int) (m : Nat) (l : List Ct) : AV := .agg [.v (.int .i64 v), .v (.int .u16 (m : Nat)), .fsl 3 (l.map avCt)]
theorem avBox_inj {v v' : Int} {m m' : Nat} {l l' : List Ct} (h : avBox v m l = avBox v' m' l') : v = v' ∧ m = m' ∧ l = l' := by
  simp only [avBox, AV.agg.injEq, List.cons.injEq, AV.v.injEq, Value.int.injEq, true_and, AV.fsl.injEq, and_true] at h
  exact ⟨h.1, by omega, map_avCt h.2.2⟩
noncomputable def spBoxR : Spec := spc (X := Int × Nat × List Ct) (fun p => ([avBox p.1 p.2.1 p.2.2], [])) (fun p => p.2.1 < 65536 ∧ p.2.2.length ≤ 100000000 ∧ ∀ y ∈ p.2.2, okCt y)
  (fun p => (.ret (.v (.bool (boxB p.1 p.2.1 p.2.2))), []))
open Classical in
theorem boxAt (v : Int) (m : Nat) (l : List Ct) : spBoxR [.agg [.v (.int .i64 v), .v (.int .u16 (m : Nat)), .fsl 3 (l.map avCt)]] [] = if m < 65536 ∧ l.length ≤ 100000000 ∧ (∀ y ∈ l, okCt y) then some (.ret (.v (.bool (boxB v m l))), []) else none :=
  spc_at (f := fun p : Int × Nat × List Ct => ([avBox p.1 p.2.1 p.2.2], [])) (fun x y h => by
    simp only [Prod.mk.injEq, List.cons.injEq, and_true] at h
    obtain ⟨h1, h2, h3⟩ := avBox_inj h
    exact Prod.ext h1 (Prod.ext h2 h3)) (v, m, l)
open Classical in
theorem ordAtCt' (w w2 : Int) (a a2 : Bool) (i i2 : Int) : spOrdCt [.agg [.v (.int .u8 w), .v (.bool a), .v (.int .u8 i)], .agg [.v (.int .u8 w2), .v (.bool a2), .v (.int .u8 i2)]] [] = if okCt ⟨w, a, i⟩ ∧ okCt ⟨w2, a2, i2⟩ then some (.ret (.v (.int .i64 (cmpI w w2))), []) else none := ordAtCt ⟨w, a, i⟩ ⟨w2, a2, i2⟩

set_option maxHeartbeats 8000000 in
theorem boxRight_ok : CallOk Try.prog 53 spBoxR := by
  refine ok_53 (Env.put_ok [] (Env.put_ok [] (Env.put_ok [] (Env.put_ok [] (Env.none_ok _) has_ok) apply_ok) rollRight_ok) ordCt_ok) spBoxR (wb_spc ?_)
  rintro ⟨v, m, l⟩ ⟨hm, hll, hok⟩
  simp only [avBox] at hm hll hok ⊢
  have hml : (m : Int) < 65536 := by omega
  unfold ac_53
  repeat' first
      | with_reducible refine wp_regionS (seg_eval (by simp -dsimp -implicitDefEqProofs; rfl) ?_)
      | with_reducible refine wp_region (seg_eval (by simp -dsimp -implicitDefEqProofs; rfl) ?_)
      | with_reducible refine wp_drawsS (seg_eval (by simp -dsimp -implicitDefEqProofs; rfl) ?_)
      | with_reducible refine wp_draws (seg_eval (by simp -dsimp -implicitDefEqProofs; rfl) ?_)
      | with_reducible refine seg_fin ?_
      | with_reducible refine seg_pan ?_
      | with_reducible refine seg_both ?_ ?_
      | with_reducible refine seg_case (fun x h => ?_) (fun h => ?_)
      | with_reducible refine seg_gate (fun h => ?_) (fun h => ?_)
      | with_reducible refine seg_need ?_ ?_
      | with_reducible refine wp_assoc ?_ | with_reducible refine wp_skipS ?_ | with_reducible refine wp_retS ?_ | with_reducible refine wp_exitS ?_ | with_reducible refine wp_dropS (wp_eqT (by simp -dsimp -implicitDefEqProofs; rfl) ?_) | with_reducible refine wp_sealS (by simp -dsimp -implicitDefEqProofs; rfl) ?_ | with_reducible refine wp_seal (by simp -dsimp -implicitDefEqProofs; rfl) ?_ | with_reducible refine wp_closeS (by simp -dsimp -implicitDefEqProofs; rfl) ?_ | with_reducible refine wp_close (by simp -dsimp -implicitDefEqProofs; rfl) ?_ | with_reducible refine wp_conc_out ?_ | with_reducible refine wp_open_out ?_ | with_reducible refine wp_pack_out ?_ | with_reducible refine wp_blockS ?_ | with_reducible refine wp_skip' ?_ | with_reducible refine wp_ret' ?_ | with_reducible refine wp_exit' ?_ | with_reducible refine wp_drop (wp_eqT (by simp -dsimp -implicitDefEqProofs; rfl) ?_) | with_reducible refine wp_block' ?_
      | with_reducible refine wp_condVS (by simp -dsimp -implicitDefEqProofs; rfl) ?_
      | with_reducible refine wp_condV (by simp -dsimp -implicitDefEqProofs; rfl) ?_
      | with_reducible refine cond_t ?_ | with_reducible refine cond_f ?_ | with_reducible refine cond_v (fun h => ?_) (fun h => ?_)
      | with_reducible refine post_then ?_ | with_reducible refine post_thenE ?_ | with_reducible refine post_thenP ?_ | with_reducible refine post_blkP ?_ | with_reducible refine post_thenR ?_ | with_reducible refine post_blkN ?_ | with_reducible refine post_blkE ?_ | with_reducible refine post_blkF rfl ?_ | with_reducible refine post_blkR ?_
      | with_reducible refine seg_eval (by simp -dsimp -implicitDefEqProofs; rfl) ?_
  refine wp_loop' (fun j ts mm => ∃ i : Nat, i + j = l.length ∧ (∀ k c, k < i → l[k]? = some c → (applyV v m c.add c.id.toNat).2 = 0 ∧ hasS m c.who.toNat = true ∧ (0 < k → ∀ p, l[k - 1]? = some p → p.who < c.who)) ∧
    ts = [(1, .fptr (.agg [.v (.int .i64 v), .v (.int .u16 (m : Nat)), .fsl 3 (l.map avCt)]) 0), (8, .fsl 3 (l.map avCt)), (9, .v (.int .i64 l.length)), (10, .v (.int .i64 i))] ∧ mm = []) l.length ?_ ?_
  · exact ⟨[], [], by simp, by simp, 0, by omega, fun k n hk => by omega, by simp, by simp⟩
  · rintro j ts mm ⟨i, hi, hlo, rfl, rfl⟩
    by_cases hlt : i < l.length
    · obtain ⟨x, hx⟩ : ∃ x, l[i]? = some x := ⟨_, List.getElem?_eq_getElem (by omega)⟩
      have hxo := hok x (List.mem_of_getElem? hx)
      have hd : decide ((i : Int) < (l.length : Int)) = true := by rw [decide_eq_true_eq]; omega
      have hd2 : decide (i < l.length) = true := by simp [hlt]
      have h64 : IntKind.wrap .i64 ((i : Int) + 1) = ((i + 1 : Nat) : Int) := by rw [IntWalk.i64_in _ (by omega)]; rfl
      have more (h1 : (applyV v m x.add x.id.toNat).2 = 0) (h2 : hasS m x.who.toNat = true) (h3 : 0 < i → ∀ p, l[i - 1]? = some p → p.who < x.who) : ∀ k c, k < i + 1 → l[k]? = some c → (applyV v m c.add c.id.toNat).2 = 0 ∧ hasS m c.who.toNat = true ∧ (0 < k → ∀ p, l[k - 1]? = some p → p.who < c.who) := by
        intro k c hk hc
        by_cases hki : k = i
        · subst hki; rw [hx] at hc; cases hc; exact ⟨h1, h2, h3⟩
        · exact hlo k c (by omega) hc
      obtain ⟨w, a, d⟩ := x
      obtain ⟨hw0, hw1, hd0, hd1⟩ := id hxo
      simp only at hw0 hw1 hd0 hd1 more
      by_cases ha : (applyV v m a d.toNat).2 = 0
      · have ha2 : ((applyV v m a d.toNat).2 != 0) = false := by simp [ha]
        cases hh : hasS m w.toNat
        · have hno : boxB v m l = false := box_no fun hF => by have := (hF.2 i _ hx).2.1; simp only at this; rw [hh] at this; cases this
          rw [hno]
          repeat' first
              | with_reducible refine wp_regionS (seg_eval (by simp -dsimp -implicitDefEqProofs [avCt, cCt, hd, hd2, h64, hx, hw0, hw1, hd0, hd1, hml, hm, hh, ha, ha2, spHas, spApplyV]; rfl) ?_)
              | with_reducible refine wp_region (seg_eval (by simp -dsimp -implicitDefEqProofs [avCt, cCt, hd, hd2, h64, hx, hw0, hw1, hd0, hd1, hml, hm, hh, ha, ha2, spHas, spApplyV]; rfl) ?_)
              | with_reducible refine wp_drawsS (seg_eval (by simp -dsimp -implicitDefEqProofs [avCt, cCt, hd, hd2, h64, hx, hw0, hw1, hd0, hd1, hml, hm, hh, ha, ha2, spHas, spApplyV]; rfl) ?_)
              | with_reducible refine wp_draws (seg_eval (by simp -dsimp -implicitDefEqProofs [avCt, cCt, hd, hd2, h64, hx, hw0, hw1, hd0, hd1, hml, hm, hh, ha, ha2, spHas, spApplyV]; rfl) ?_)
              | with_reducible refine seg_fin ?_
              | with_reducible refine seg_pan ?_
              | with_reducible refine seg_both ?_ ?_
              | with_reducible refine seg_case (fun x h => ?_) (fun h => ?_)
              | with_reducible refine seg_gate (fun h => ?_) (fun h => ?_)
              | with_reducible refine seg_need ?_ ?_
              | with_reducible refine wp_assoc ?_ | with_reducible refine wp_skipS ?_ | with_reducible refine wp_retS ?_ | with_reducible refine wp_exitS ?_ | with_reducible refine wp_dropS (wp_eqT (by simp -dsimp -implicitDefEqProofs [avCt, cCt, hd, hd2, h64, hx, hw0, hw1, hd0, hd1, hml, hm, hh, ha, ha2, spHas, spApplyV]; rfl) ?_) | with_reducible refine wp_sealS (by simp -dsimp -implicitDefEqProofs [avCt, cCt, hd, hd2, h64, hx, hw0, hw1, hd0, hd1, hml, hm, hh, ha, ha2, spHas, spApplyV]; rfl) ?_ | with_reducible refine wp_seal (by simp -dsimp -implicitDefEqProofs [avCt, cCt, hd, hd2, h64, hx, hw0, hw1, hd0, hd1, hml, hm, hh, ha, ha2, spHas, spApplyV]; rfl) ?_ | with_reducible refine wp_closeS (by simp -dsimp -implicitDefEqProofs [avCt, cCt, hd, hd2, h64, hx, hw0, hw1, hd0, hd1, hml, hm, hh, ha, ha2, spHas, spApplyV]; rfl) ?_ | with_reducible refine wp_close (by simp -dsimp -implicitDefEqProofs [avCt, cCt, hd, hd2, h64, hx, hw0, hw1, hd0, hd1, hml, hm, hh, ha, ha2, spHas, spApplyV]; rfl) ?_ | with_reducible refine wp_conc_out ?_ | with_reducible refine wp_open_out ?_ | with_reducible refine wp_pack_out ?_ | with_reducible refine wp_blockS ?_ | with_reducible refine wp_skip' ?_ | with_reducible refine wp_ret' ?_ | with_reducible refine wp_exit' ?_ | with_reducible refine wp_drop (wp_eqT (by simp -dsimp -implicitDefEqProofs [avCt, cCt, hd, hd2, h64, hx, hw0, hw1, hd0, hd1, hml, hm, hh, ha, ha2, spHas, spApplyV]; rfl) ?_) | with_reducible refine wp_block' ?_
              | with_reducible refine wp_condVS (by simp -dsimp -implicitDefEqProofs [avCt, cCt, hd, hd2, h64, hx, hw0, hw1, hd0, hd1, hml, hm, hh, ha, ha2, spHas, spApplyV]; rfl) ?_
              | with_reducible refine wp_condV (by simp -dsimp -implicitDefEqProofs [avCt, cCt, hd, hd2, h64, hx, hw0, hw1, hd0, hd1, hml, hm, hh, ha, ha2, spHas, spApplyV]; rfl) ?_
              | with_reducible refine cond_t ?_ | with_reducible refine cond_f ?_ | with_reducible refine cond_v (fun h => ?_) (fun h => ?_)
              | with_reducible refine post_then ?_ | with_reducible refine post_thenE ?_ | with_reducible refine post_thenP ?_ | with_reducible refine post_blkP ?_ | with_reducible refine post_thenR ?_ | with_reducible refine post_blkN ?_ | with_reducible refine post_blkE ?_ | with_reducible refine post_blkF rfl ?_ | with_reducible refine post_blkR ?_
              | with_reducible refine seg_eval (by simp -dsimp -implicitDefEqProofs [avCt, cCt, hd, hd2, h64, hx, hw0, hw1, hd0, hd1, hml, hm, hh, ha, ha2, spHas, spApplyV]; rfl) ?_
          all_goals first
            | omega
            | exact post_fin rfl rfl ⟨[], [], rfl, rfl, rfl, rfl⟩
            | trace_state
        · rcases Nat.eq_zero_or_pos i with h0 | h0
          · subst h0
            repeat' first
                | with_reducible refine wp_regionS (seg_eval (by simp -dsimp -implicitDefEqProofs [avCt, cCt, hd, hd2, h64, hx, hw0, hw1, hd0, hd1, hml, hm, hh, ha, ha2, spHas, spApplyV]; rfl) ?_)
                | with_reducible refine wp_region (seg_eval (by simp -dsimp -implicitDefEqProofs [avCt, cCt, hd, hd2, h64, hx, hw0, hw1, hd0, hd1, hml, hm, hh, ha, ha2, spHas, spApplyV]; rfl) ?_)
                | with_reducible refine wp_drawsS (seg_eval (by simp -dsimp -implicitDefEqProofs [avCt, cCt, hd, hd2, h64, hx, hw0, hw1, hd0, hd1, hml, hm, hh, ha, ha2, spHas, spApplyV]; rfl) ?_)
                | with_reducible refine wp_draws (seg_eval (by simp -dsimp -implicitDefEqProofs [avCt, cCt, hd, hd2, h64, hx, hw0, hw1, hd0, hd1, hml, hm, hh, ha, ha2, spHas, spApplyV]; rfl) ?_)
                | with_reducible refine seg_fin ?_
                | with_reducible refine seg_pan ?_
                | with_reducible refine seg_both ?_ ?_
                | with_reducible refine seg_case (fun x h => ?_) (fun h => ?_)
                | with_reducible refine seg_gate (fun h => ?_) (fun h => ?_)
                | with_reducible refine seg_need ?_ ?_
                | with_reducible refine wp_assoc ?_ | with_reducible refine wp_skipS ?_ | with_reducible refine wp_retS ?_ | with_reducible refine wp_exitS ?_ | with_reducible refine wp_dropS (wp_eqT (by simp -dsimp -implicitDefEqProofs [avCt, cCt, hd, hd2, h64, hx, hw0, hw1, hd0, hd1, hml, hm, hh, ha, ha2, spHas, spApplyV]; rfl) ?_) | with_reducible refine wp_sealS (by simp -dsimp -implicitDefEqProofs [avCt, cCt, hd, hd2, h64, hx, hw0, hw1, hd0, hd1, hml, hm, hh, ha, ha2, spHas, spApplyV]; rfl) ?_ | with_reducible refine wp_seal (by simp -dsimp -implicitDefEqProofs [avCt, cCt, hd, hd2, h64, hx, hw0, hw1, hd0, hd1, hml, hm, hh, ha, ha2, spHas, spApplyV]; rfl) ?_ | with_reducible refine wp_closeS (by simp -dsimp -implicitDefEqProofs [avCt, cCt, hd, hd2, h64, hx, hw0, hw1, hd0, hd1, hml, hm, hh, ha, ha2, spHas, spApplyV]; rfl) ?_ | with_reducible refine wp_close (by simp -dsimp -implicitDefEqProofs [avCt, cCt, hd, hd2, h64, hx, hw0, hw1, hd0, hd1, hml, hm, hh, ha, ha2, spHas, spApplyV]; rfl) ?_ | with_reducible refine wp_conc_out ?_ | with_reducible refine wp_open_out ?_ | with_reducible refine wp_pack_out ?_ | with_reducible refine wp_blockS ?_ | with_reducible refine wp_skip' ?_ | with_reducible refine wp_ret' ?_ | with_reducible refine wp_exit' ?_ | with_reducible refine wp_drop (wp_eqT (by simp -dsimp -implicitDefEqProofs [avCt, cCt, hd, hd2, h64, hx, hw0, hw1, hd0, hd1, hml, hm, hh, ha, ha2, spHas, spApplyV]; rfl) ?_) | with_reducible refine wp_block' ?_
                | with_reducible refine wp_condVS (by simp -dsimp -implicitDefEqProofs [avCt, cCt, hd, hd2, h64, hx, hw0, hw1, hd0, hd1, hml, hm, hh, ha, ha2, spHas, spApplyV]; rfl) ?_
                | with_reducible refine wp_condV (by simp -dsimp -implicitDefEqProofs [avCt, cCt, hd, hd2, h64, hx, hw0, hw1, hd0, hd1, hml, hm, hh, ha, ha2, spHas, spApplyV]; rfl) ?_
                | with_reducible refine cond_t ?_ | with_reducible refine cond_f ?_ | with_reducible refine cond_v (fun h => ?_) (fun h => ?_)
                | with_reducible refine post_then ?_ | with_reducible refine post_thenE ?_ | with_reducible refine post_thenP ?_ | with_reducible refine post_blkP ?_ | with_reducible refine post_thenR ?_ | with_reducible refine post_blkN ?_ | with_reducible refine post_blkE ?_ | with_reducible refine post_blkF rfl ?_ | with_reducible refine post_blkR ?_
                | with_reducible refine seg_eval (by simp -dsimp -implicitDefEqProofs [avCt, cCt, hd, hd2, h64, hx, hw0, hw1, hd0, hd1, hml, hm, hh, ha, ha2, spHas, spApplyV]; rfl) ?_
            all_goals first
              | omega
              | exact ⟨j - 1, by omega, [], [], by simp, by simp, 1, by omega, more ha hh (fun h => by omega), by simp [avCt]; decide, by simp⟩
              | exact ⟨j - 1, by omega, [], [], by simp, by simp, 1, by omega, more ha hh (fun h => by omega), by simp [avCt], by simp⟩
              | trace_state
          · obtain ⟨i', hi'⟩ : ∃ i', i = i' + 1 := ⟨i - 1, by omega⟩
            obtain ⟨y, hy⟩ : ∃ y, l[i']? = some y := ⟨_, List.getElem?_eq_getElem (by omega)⟩
            have hyo := hok y (List.mem_of_getElem? hy)
            obtain ⟨w2, a2, d2⟩ := y
            have c0 : decide ((0 : Int) < (i : Int)) = true := by rw [decide_eq_true_eq]; omega
            have c0n : decide (0 < i) = true := by rw [decide_eq_true_eq]; omega
            have h65 : IntKind.wrap .i64 ((i : Int) - 1) = (i' : Int) := by rw [IntWalk.i64_in _ (by omega)]; omega
            by_cases hlt2 : w2 < w
            · have hc : decide ((0 : Int) ≤ cmpI w2 w) = false := by rw [decide_eq_false_iff_not]; unfold cmpI; rw [if_pos hlt2]; decide
              repeat' first
                  | with_reducible refine wp_regionS (seg_eval (by simp -dsimp -implicitDefEqProofs [avCt, cCt, hd, hd2, h64, h65, hx, hy, hw0, hw1, hd0, hd1, hml, hm, hh, ha, ha2, c0, c0n, hc, hxo, hyo, spHas, spApplyV, ordAtCt']; rfl) ?_)
                  | with_reducible refine wp_region (seg_eval (by simp -dsimp -implicitDefEqProofs [avCt, cCt, hd, hd2, h64, h65, hx, hy, hw0, hw1, hd0, hd1, hml, hm, hh, ha, ha2, c0, c0n, hc, hxo, hyo, spHas, spApplyV, ordAtCt']; rfl) ?_)
                  | with_reducible refine wp_drawsS (seg_eval (by simp -dsimp -implicitDefEqProofs [avCt, cCt, hd, hd2, h64, h65, hx, hy, hw0, hw1, hd0, hd1, hml, hm, hh, ha, ha2, c0, c0n, hc, hxo, hyo, spHas, spApplyV, ordAtCt']; rfl) ?_)
                  | with_reducible refine wp_draws (seg_eval (by simp -dsimp -implicitDefEqProofs [avCt, cCt, hd, hd2, h64, h65, hx, hy, hw0, hw1, hd0, hd1, hml, hm, hh, ha, ha2, c0, c0n, hc, hxo, hyo, spHas, spApplyV, ordAtCt']; rfl) ?_)
                  | with_reducible refine seg_fin ?_
                  | with_reducible refine seg_pan ?_
                  | with_reducible refine seg_both ?_ ?_
                  | with_reducible refine seg_case (fun x h => ?_) (fun h => ?_)
                  | with_reducible refine seg_gate (fun h => ?_) (fun h => ?_)
                  | with_reducible refine seg_need ?_ ?_
                  | with_reducible refine wp_assoc ?_ | with_reducible refine wp_skipS ?_ | with_reducible refine wp_retS ?_ | with_reducible refine wp_exitS ?_ | with_reducible refine wp_dropS (wp_eqT (by simp -dsimp -implicitDefEqProofs [avCt, cCt, hd, hd2, h64, h65, hx, hy, hw0, hw1, hd0, hd1, hml, hm, hh, ha, ha2, c0, c0n, hc, hxo, hyo, spHas, spApplyV, ordAtCt']; rfl) ?_) | with_reducible refine wp_sealS (by simp -dsimp -implicitDefEqProofs [avCt, cCt, hd, hd2, h64, h65, hx, hy, hw0, hw1, hd0, hd1, hml, hm, hh, ha, ha2, c0, c0n, hc, hxo, hyo, spHas, spApplyV, ordAtCt']; rfl) ?_ | with_reducible refine wp_seal (by simp -dsimp -implicitDefEqProofs [avCt, cCt, hd, hd2, h64, h65, hx, hy, hw0, hw1, hd0, hd1, hml, hm, hh, ha, ha2, c0, c0n, hc, hxo, hyo, spHas, spApplyV, ordAtCt']; rfl) ?_ | with_reducible refine wp_closeS (by simp -dsimp -implicitDefEqProofs [avCt, cCt, hd, hd2, h64, h65, hx, hy, hw0, hw1, hd0, hd1, hml, hm, hh, ha, ha2, c0, c0n, hc, hxo, hyo, spHas, spApplyV, ordAtCt']; rfl) ?_ | with_reducible refine wp_close (by simp -dsimp -implicitDefEqProofs [avCt, cCt, hd, hd2, h64, h65, hx, hy, hw0, hw1, hd0, hd1, hml, hm, hh, ha, ha2, c0, c0n, hc, hxo, hyo, spHas, spApplyV, ordAtCt']; rfl) ?_ | with_reducible refine wp_conc_out ?_ | with_reducible refine wp_open_out ?_ | with_reducible refine wp_pack_out ?_ | with_reducible refine wp_blockS ?_ | with_reducible refine wp_skip' ?_ | with_reducible refine wp_ret' ?_ | with_reducible refine wp_exit' ?_ | with_reducible refine wp_drop (wp_eqT (by simp -dsimp -implicitDefEqProofs [avCt, cCt, hd, hd2, h64, h65, hx, hy, hw0, hw1, hd0, hd1, hml, hm, hh, ha, ha2, c0, c0n, hc, hxo, hyo, spHas, spApplyV, ordAtCt']; rfl) ?_) | with_reducible refine wp_block' ?_
                  | with_reducible refine wp_condVS (by simp -dsimp -implicitDefEqProofs [avCt, cCt, hd, hd2, h64, h65, hx, hy, hw0, hw1, hd0, hd1, hml, hm, hh, ha, ha2, c0, c0n, hc, hxo, hyo, spHas, spApplyV, ordAtCt']; rfl) ?_
                  | with_reducible refine wp_condV (by simp -dsimp -implicitDefEqProofs [avCt, cCt, hd, hd2, h64, h65, hx, hy, hw0, hw1, hd0, hd1, hml, hm, hh, ha, ha2, c0, c0n, hc, hxo, hyo, spHas, spApplyV, ordAtCt']; rfl) ?_
                  | with_reducible refine cond_t ?_ | with_reducible refine cond_f ?_ | with_reducible refine cond_v (fun h => ?_) (fun h => ?_)
                  | with_reducible refine post_then ?_ | with_reducible refine post_thenE ?_ | with_reducible refine post_thenP ?_ | with_reducible refine post_blkP ?_ | with_reducible refine post_thenR ?_ | with_reducible refine post_blkN ?_ | with_reducible refine post_blkE ?_ | with_reducible refine post_blkF rfl ?_ | with_reducible refine post_blkR ?_
                  | with_reducible refine seg_eval (by simp -dsimp -implicitDefEqProofs [avCt, cCt, hd, hd2, h64, h65, hx, hy, hw0, hw1, hd0, hd1, hml, hm, hh, ha, ha2, c0, c0n, hc, hxo, hyo, spHas, spApplyV, ordAtCt']; rfl) ?_
              all_goals first
                | omega
                | exact ⟨hyo, hxo⟩
                | exact ⟨j - 1, by omega, [], [], by simp, by simp, i + 1, by omega, more ha hh (fun _ p hp => by rw [show i - 1 = i' by omega] at hp; rw [hy] at hp; cases hp; exact hlt2), by simp [avCt, cCt], by simp⟩
                | trace_state
            · have hc : decide ((0 : Int) ≤ cmpI w2 w) = true := by rw [decide_eq_true_eq]; unfold cmpI; rw [if_neg hlt2]; split <;> decide
              have hno : boxB v m l = false := box_no fun hF => by
                have := (hF.2 i _ hx).2.2 (by omega) _ (by rw [show i - 1 = i' by omega]; exact hy)
                simp only at this; omega
              rw [hno]
              repeat' first
                  | with_reducible refine wp_regionS (seg_eval (by simp -dsimp -implicitDefEqProofs [avCt, cCt, hd, hd2, h64, h65, hx, hy, hw0, hw1, hd0, hd1, hml, hm, hh, ha, ha2, c0, c0n, hc, hxo, hyo, spHas, spApplyV, ordAtCt']; rfl) ?_)
                  | with_reducible refine wp_region (seg_eval (by simp -dsimp -implicitDefEqProofs [avCt, cCt, hd, hd2, h64, h65, hx, hy, hw0, hw1, hd0, hd1, hml, hm, hh, ha, ha2, c0, c0n, hc, hxo, hyo, spHas, spApplyV, ordAtCt']; rfl) ?_)
                  | with_reducible refine wp_drawsS (seg_eval (by simp -dsimp -implicitDefEqProofs [avCt, cCt, hd, hd2, h64, h65, hx, hy, hw0, hw1, hd0, hd1, hml, hm, hh, ha, ha2, c0, c0n, hc, hxo, hyo, spHas, spApplyV, ordAtCt']; rfl) ?_)
                  | with_reducible refine wp_draws (seg_eval (by simp -dsimp -implicitDefEqProofs [avCt, cCt, hd, hd2, h64, h65, hx, hy, hw0, hw1, hd0, hd1, hml, hm, hh, ha, ha2, c0, c0n, hc, hxo, hyo, spHas, spApplyV, ordAtCt']; rfl) ?_)
                  | with_reducible refine seg_fin ?_
                  | with_reducible refine seg_pan ?_
                  | with_reducible refine seg_both ?_ ?_
                  | with_reducible refine seg_case (fun x h => ?_) (fun h => ?_)
                  | with_reducible refine seg_gate (fun h => ?_) (fun h => ?_)
                  | with_reducible refine seg_need ?_ ?_
                  | with_reducible refine wp_assoc ?_ | with_reducible refine wp_skipS ?_ | with_reducible refine wp_retS ?_ | with_reducible refine wp_exitS ?_ | with_reducible refine wp_dropS (wp_eqT (by simp -dsimp -implicitDefEqProofs [avCt, cCt, hd, hd2, h64, h65, hx, hy, hw0, hw1, hd0, hd1, hml, hm, hh, ha, ha2, c0, c0n, hc, hxo, hyo, spHas, spApplyV, ordAtCt']; rfl) ?_) | with_reducible refine wp_sealS (by simp -dsimp -implicitDefEqProofs [avCt, cCt, hd, hd2, h64, h65, hx, hy, hw0, hw1, hd0, hd1, hml, hm, hh, ha, ha2, c0, c0n, hc, hxo, hyo, spHas, spApplyV, ordAtCt']; rfl) ?_ | with_reducible refine wp_seal (by simp -dsimp -implicitDefEqProofs [avCt, cCt, hd, hd2, h64, h65, hx, hy, hw0, hw1, hd0, hd1, hml, hm, hh, ha, ha2, c0, c0n, hc, hxo, hyo, spHas, spApplyV, ordAtCt']; rfl) ?_ | with_reducible refine wp_closeS (by simp -dsimp -implicitDefEqProofs [avCt, cCt, hd, hd2, h64, h65, hx, hy, hw0, hw1, hd0, hd1, hml, hm, hh, ha, ha2, c0, c0n, hc, hxo, hyo, spHas, spApplyV, ordAtCt']; rfl) ?_ | with_reducible refine wp_close (by simp -dsimp -implicitDefEqProofs [avCt, cCt, hd, hd2, h64, h65, hx, hy, hw0, hw1, hd0, hd1, hml, hm, hh, ha, ha2, c0, c0n, hc, hxo, hyo, spHas, spApplyV, ordAtCt']; rfl) ?_ | with_reducible refine wp_conc_out ?_ | with_reducible refine wp_open_out ?_ | with_reducible refine wp_pack_out ?_ | with_reducible refine wp_blockS ?_ | with_reducible refine wp_skip' ?_ | with_reducible refine wp_ret' ?_ | with_reducible refine wp_exit' ?_ | with_reducible refine wp_drop (wp_eqT (by simp -dsimp -implicitDefEqProofs [avCt, cCt, hd, hd2, h64, h65, hx, hy, hw0, hw1, hd0, hd1, hml, hm, hh, ha, ha2, c0, c0n, hc, hxo, hyo, spHas, spApplyV, ordAtCt']; rfl) ?_) | with_reducible refine wp_block' ?_
                  | with_reducible refine wp_condVS (by simp -dsimp -implicitDefEqProofs [avCt, cCt, hd, hd2, h64, h65, hx, hy, hw0, hw1, hd0, hd1, hml, hm, hh, ha, ha2, c0, c0n, hc, hxo, hyo, spHas, spApplyV, ordAtCt']; rfl) ?_
                  | with_reducible refine wp_condV (by simp -dsimp -implicitDefEqProofs [avCt, cCt, hd, hd2, h64, h65, hx, hy, hw0, hw1, hd0, hd1, hml, hm, hh, ha, ha2, c0, c0n, hc, hxo, hyo, spHas, spApplyV, ordAtCt']; rfl) ?_
                  | with_reducible refine cond_t ?_ | with_reducible refine cond_f ?_ | with_reducible refine cond_v (fun h => ?_) (fun h => ?_)
                  | with_reducible refine post_then ?_ | with_reducible refine post_thenE ?_ | with_reducible refine post_thenP ?_ | with_reducible refine post_blkP ?_ | with_reducible refine post_thenR ?_ | with_reducible refine post_blkN ?_ | with_reducible refine post_blkE ?_ | with_reducible refine post_blkF rfl ?_ | with_reducible refine post_blkR ?_
                  | with_reducible refine seg_eval (by simp -dsimp -implicitDefEqProofs [avCt, cCt, hd, hd2, h64, h65, hx, hy, hw0, hw1, hd0, hd1, hml, hm, hh, ha, ha2, c0, c0n, hc, hxo, hyo, spHas, spApplyV, ordAtCt']; rfl) ?_
              all_goals first
                | omega
                | exact ⟨hyo, hxo⟩
                | exact post_fin rfl rfl ⟨[], [], rfl, rfl, rfl, rfl⟩
                | trace_state
      · have ha2 : ((applyV v m a d.toNat).2 != 0) = true := by simp [ha]
        have hno : boxB v m l = false := box_no fun hF => ha (by have := (hF.2 i _ hx).1; exact this)
        rw [hno]
        repeat' first
            | with_reducible refine wp_regionS (seg_eval (by simp -dsimp -implicitDefEqProofs [avCt, cCt, hd, hd2, h64, hx, hw0, hw1, hd0, hd1, hml, hm, ha2, spApplyV]; rfl) ?_)
            | with_reducible refine wp_region (seg_eval (by simp -dsimp -implicitDefEqProofs [avCt, cCt, hd, hd2, h64, hx, hw0, hw1, hd0, hd1, hml, hm, ha2, spApplyV]; rfl) ?_)
            | with_reducible refine wp_drawsS (seg_eval (by simp -dsimp -implicitDefEqProofs [avCt, cCt, hd, hd2, h64, hx, hw0, hw1, hd0, hd1, hml, hm, ha2, spApplyV]; rfl) ?_)
            | with_reducible refine wp_draws (seg_eval (by simp -dsimp -implicitDefEqProofs [avCt, cCt, hd, hd2, h64, hx, hw0, hw1, hd0, hd1, hml, hm, ha2, spApplyV]; rfl) ?_)
            | with_reducible refine seg_fin ?_
            | with_reducible refine seg_pan ?_
            | with_reducible refine seg_both ?_ ?_
            | with_reducible refine seg_case (fun x h => ?_) (fun h => ?_)
            | with_reducible refine seg_gate (fun h => ?_) (fun h => ?_)
            | with_reducible refine seg_need ?_ ?_
            | with_reducible refine wp_assoc ?_ | with_reducible refine wp_skipS ?_ | with_reducible refine wp_retS ?_ | with_reducible refine wp_exitS ?_ | with_reducible refine wp_dropS (wp_eqT (by simp -dsimp -implicitDefEqProofs [avCt, cCt, hd, hd2, h64, hx, hw0, hw1, hd0, hd1, hml, hm, ha2, spApplyV]; rfl) ?_) | with_reducible refine wp_sealS (by simp -dsimp -implicitDefEqProofs [avCt, cCt, hd, hd2, h64, hx, hw0, hw1, hd0, hd1, hml, hm, ha2, spApplyV]; rfl) ?_ | with_reducible refine wp_seal (by simp -dsimp -implicitDefEqProofs [avCt, cCt, hd, hd2, h64, hx, hw0, hw1, hd0, hd1, hml, hm, ha2, spApplyV]; rfl) ?_ | with_reducible refine wp_closeS (by simp -dsimp -implicitDefEqProofs [avCt, cCt, hd, hd2, h64, hx, hw0, hw1, hd0, hd1, hml, hm, ha2, spApplyV]; rfl) ?_ | with_reducible refine wp_close (by simp -dsimp -implicitDefEqProofs [avCt, cCt, hd, hd2, h64, hx, hw0, hw1, hd0, hd1, hml, hm, ha2, spApplyV]; rfl) ?_ | with_reducible refine wp_conc_out ?_ | with_reducible refine wp_open_out ?_ | with_reducible refine wp_pack_out ?_ | with_reducible refine wp_blockS ?_ | with_reducible refine wp_skip' ?_ | with_reducible refine wp_ret' ?_ | with_reducible refine wp_exit' ?_ | with_reducible refine wp_drop (wp_eqT (by simp -dsimp -implicitDefEqProofs [avCt, cCt, hd, hd2, h64, hx, hw0, hw1, hd0, hd1, hml, hm, ha2, spApplyV]; rfl) ?_) | with_reducible refine wp_block' ?_
            | with_reducible refine wp_condVS (by simp -dsimp -implicitDefEqProofs [avCt, cCt, hd, hd2, h64, hx, hw0, hw1, hd0, hd1, hml, hm, ha2, spApplyV]; rfl) ?_
            | with_reducible refine wp_condV (by simp -dsimp -implicitDefEqProofs [avCt, cCt, hd, hd2, h64, hx, hw0, hw1, hd0, hd1, hml, hm, ha2, spApplyV]; rfl) ?_
            | with_reducible refine cond_t ?_ | with_reducible refine cond_f ?_ | with_reducible refine cond_v (fun h => ?_) (fun h => ?_)
            | with_reducible refine post_then ?_ | with_reducible refine post_thenE ?_ | with_reducible refine post_thenP ?_ | with_reducible refine post_blkP ?_ | with_reducible refine post_thenR ?_ | with_reducible refine post_blkN ?_ | with_reducible refine post_blkE ?_ | with_reducible refine post_blkF rfl ?_ | with_reducible refine post_blkR ?_
            | with_reducible refine seg_eval (by simp -dsimp -implicitDefEqProofs [avCt, cCt, hd, hd2, h64, hx, hw0, hw1, hd0, hd1, hml, hm, ha2, spApplyV]; rfl) ?_
        all_goals first
          | omega
          | exact post_fin rfl rfl ⟨[], [], rfl, rfl, rfl, rfl⟩
          | trace_state
    · have hd : decide ((i : Int) < (l.length : Int)) = false := by rw [decide_eq_false_iff_not]; omega
      have hd2 : decide (i < l.length) = false := by simp [hlt]
      have hall : CtF v m l := fun k n hn => hlo k n (by have := (List.getElem?_eq_some_iff.1 hn).1; omega) hn
      have hyes : boxB v m l = rightV v m := by
        cases hr : rightV v m
        · exact box_no fun hF => by rw [hF.1] at hr; cases hr
        · exact box_yes ⟨hr, hall⟩
      rw [hyes]
      repeat' first
          | with_reducible refine wp_regionS (seg_eval (by simp -dsimp -implicitDefEqProofs [hd, hd2, hml, hm, spRightV]; rfl) ?_)
          | with_reducible refine wp_region (seg_eval (by simp -dsimp -implicitDefEqProofs [hd, hd2, hml, hm, spRightV]; rfl) ?_)
          | with_reducible refine wp_drawsS (seg_eval (by simp -dsimp -implicitDefEqProofs [hd, hd2, hml, hm, spRightV]; rfl) ?_)
          | with_reducible refine wp_draws (seg_eval (by simp -dsimp -implicitDefEqProofs [hd, hd2, hml, hm, spRightV]; rfl) ?_)
          | with_reducible refine seg_fin ?_
          | with_reducible refine seg_pan ?_
          | with_reducible refine seg_both ?_ ?_
          | with_reducible refine seg_case (fun x h => ?_) (fun h => ?_)
          | with_reducible refine seg_gate (fun h => ?_) (fun h => ?_)
          | with_reducible refine seg_need ?_ ?_
          | with_reducible refine wp_assoc ?_ | with_reducible refine wp_skipS ?_ | with_reducible refine wp_retS ?_ | with_reducible refine wp_exitS ?_ | with_reducible refine wp_dropS (wp_eqT (by simp -dsimp -implicitDefEqProofs [hd, hd2, hml, hm, spRightV]; rfl) ?_) | with_reducible refine wp_sealS (by simp -dsimp -implicitDefEqProofs [hd, hd2, hml, hm, spRightV]; rfl) ?_ | with_reducible refine wp_seal (by simp -dsimp -implicitDefEqProofs [hd, hd2, hml, hm, spRightV]; rfl) ?_ | with_reducible refine wp_closeS (by simp -dsimp -implicitDefEqProofs [hd, hd2, hml, hm, spRightV]; rfl) ?_ | with_reducible refine wp_close (by simp -dsimp -implicitDefEqProofs [hd, hd2, hml, hm, spRightV]; rfl) ?_ | with_reducible refine wp_conc_out ?_ | with_reducible refine wp_open_out ?_ | with_reducible refine wp_pack_out ?_ | with_reducible refine wp_blockS ?_ | with_reducible refine wp_skip' ?_ | with_reducible refine wp_ret' ?_ | with_reducible refine wp_exit' ?_ | with_reducible refine wp_drop (wp_eqT (by simp -dsimp -implicitDefEqProofs [hd, hd2, hml, hm, spRightV]; rfl) ?_) | with_reducible refine wp_block' ?_
          | with_reducible refine wp_condVS (by simp -dsimp -implicitDefEqProofs [hd, hd2, hml, hm, spRightV]; rfl) ?_
          | with_reducible refine wp_condV (by simp -dsimp -implicitDefEqProofs [hd, hd2, hml, hm, spRightV]; rfl) ?_
          | with_reducible refine cond_t ?_ | with_reducible refine cond_f ?_ | with_reducible refine cond_v (fun h => ?_) (fun h => ?_)
          | with_reducible refine post_then ?_ | with_reducible refine post_thenE ?_ | with_reducible refine post_thenP ?_ | with_reducible refine post_blkP ?_ | with_reducible refine post_thenR ?_ | with_reducible refine post_blkN ?_ | with_reducible refine post_blkE ?_ | with_reducible refine post_blkF rfl ?_ | with_reducible refine post_blkR ?_
          | with_reducible refine seg_eval (by simp -dsimp -implicitDefEqProofs [hd, hd2, hml, hm, spRightV]; rfl) ?_
      all_goals first
        | omega
        | exact post_fin rfl rfl ⟨[], [], rfl, rfl, rfl, rfl⟩
        | trace_state

set_option maxHeartbeats 8000000 in
theorem boxRightR_ok : CallOk Try.prog 57 spBoxR := by
  refine ok_57 (Env.put_ok [] (Env.put_ok [] (Env.put_ok [] (Env.none_ok _) hasR_ok) applyR_ok) rollRightR_ok) spBoxR (wb_spc ?_)
  rintro ⟨v, m, l⟩ ⟨hm, hll, hok⟩
  simp only [avBox] at hm hll hok ⊢
  have hml : (m : Int) < 65536 := by omega
  unfold ac_57
  repeat' first
      | with_reducible refine wp_regionS (seg_eval (by simp -dsimp -implicitDefEqProofs; rfl) ?_)
      | with_reducible refine wp_region (seg_eval (by simp -dsimp -implicitDefEqProofs; rfl) ?_)
      | with_reducible refine wp_drawsS (seg_eval (by simp -dsimp -implicitDefEqProofs; rfl) ?_)
      | with_reducible refine wp_draws (seg_eval (by simp -dsimp -implicitDefEqProofs; rfl) ?_)
      | with_reducible refine seg_fin ?_
      | with_reducible refine seg_pan ?_
      | with_reducible refine seg_both ?_ ?_
      | with_reducible refine seg_case (fun x h => ?_) (fun h => ?_)
      | with_reducible refine seg_gate (fun h => ?_) (fun h => ?_)
      | with_reducible refine seg_need ?_ ?_
      | with_reducible refine wp_assoc ?_ | with_reducible refine wp_skipS ?_ | with_reducible refine wp_retS ?_ | with_reducible refine wp_exitS ?_ | with_reducible refine wp_dropS (wp_eqT (by simp -dsimp -implicitDefEqProofs; rfl) ?_) | with_reducible refine wp_sealS (by simp -dsimp -implicitDefEqProofs; rfl) ?_ | with_reducible refine wp_seal (by simp -dsimp -implicitDefEqProofs; rfl) ?_ | with_reducible refine wp_closeS (by simp -dsimp -implicitDefEqProofs; rfl) ?_ | with_reducible refine wp_close (by simp -dsimp -implicitDefEqProofs; rfl) ?_ | with_reducible refine wp_conc_out ?_ | with_reducible refine wp_open_out ?_ | with_reducible refine wp_pack_out ?_ | with_reducible refine wp_blockS ?_ | with_reducible refine wp_skip' ?_ | with_reducible refine wp_ret' ?_ | with_reducible refine wp_exit' ?_ | with_reducible refine wp_drop (wp_eqT (by simp -dsimp -implicitDefEqProofs; rfl) ?_) | with_reducible refine wp_block' ?_
      | with_reducible refine wp_condVS (by simp -dsimp -implicitDefEqProofs; rfl) ?_
      | with_reducible refine wp_condV (by simp -dsimp -implicitDefEqProofs; rfl) ?_
      | with_reducible refine cond_t ?_ | with_reducible refine cond_f ?_ | with_reducible refine cond_v (fun h => ?_) (fun h => ?_)
      | with_reducible refine post_then ?_ | with_reducible refine post_thenE ?_ | with_reducible refine post_thenP ?_ | with_reducible refine post_blkP ?_ | with_reducible refine post_thenR ?_ | with_reducible refine post_blkN ?_ | with_reducible refine post_blkE ?_ | with_reducible refine post_blkF rfl ?_ | with_reducible refine post_blkR ?_
      | with_reducible refine seg_eval (by simp -dsimp -implicitDefEqProofs; rfl) ?_
  refine wp_loop' (fun j ts mm => ∃ i : Nat, i + j = l.length ∧ (∀ k c, k < i → l[k]? = some c → (applyV v m c.add c.id.toNat).2 = 0 ∧ hasS m c.who.toNat = true ∧ (0 < k → ∀ p, l[k - 1]? = some p → p.who < c.who)) ∧
    ts = [(1, .fptr (.agg [.v (.int .i64 v), .v (.int .u16 (m : Nat)), .fsl 3 (l.map avCt)]) 0), (3, .v (.int .i64 i))] ∧ mm = []) l.length ?_ ?_
  · exact ⟨[], [], by simp, by simp, 0, by omega, fun k n hk => by omega, by simp, by simp⟩
  · rintro j ts mm ⟨i, hi, hlo, rfl, rfl⟩
    by_cases hlt : i < l.length
    · obtain ⟨x, hx⟩ : ∃ x, l[i]? = some x := ⟨_, List.getElem?_eq_getElem (by omega)⟩
      have hxo := hok x (List.mem_of_getElem? hx)
      have hd : decide ((i : Int) < (l.length : Int)) = true := by rw [decide_eq_true_eq]; omega
      have hd2 : decide (i < l.length) = true := by simp [hlt]
      have h64 : IntKind.wrap .i64 ((i : Int) + 1) = ((i + 1 : Nat) : Int) := by rw [IntWalk.i64_in _ (by omega)]; rfl
      have more (h1 : (applyV v m x.add x.id.toNat).2 = 0) (h2 : hasS m x.who.toNat = true) (h3 : 0 < i → ∀ p, l[i - 1]? = some p → p.who < x.who) : ∀ k c, k < i + 1 → l[k]? = some c → (applyV v m c.add c.id.toNat).2 = 0 ∧ hasS m c.who.toNat = true ∧ (0 < k → ∀ p, l[k - 1]? = some p → p.who < c.who) := by
        intro k c hk hc
        by_cases hki : k = i
        · subst hki; rw [hx] at hc; cases hc; exact ⟨h1, h2, h3⟩
        · exact hlo k c (by omega) hc
      obtain ⟨w, a, d⟩ := x
      obtain ⟨hw0, hw1, hd0, hd1⟩ := id hxo
      simp only at hw0 hw1 hd0 hd1 more
      by_cases ha : (applyV v m a d.toNat).2 = 0
      · have ha2 : ((applyV v m a d.toNat).2 != 0) = false := by simp [ha]
        cases hh : hasS m w.toNat
        · have hno : boxB v m l = false := box_no fun hF => by have := (hF.2 i _ hx).2.1; simp only at this; rw [hh] at this; cases this
          rw [hno]
          repeat' first
              | with_reducible refine wp_regionS (seg_eval (by simp -dsimp -implicitDefEqProofs [avCt, cCt, hd, hd2, h64, hx, hw0, hw1, hd0, hd1, hml, hm, hh, ha, ha2, spHas, spApplyV]; rfl) ?_)
              | with_reducible refine wp_region (seg_eval (by simp -dsimp -implicitDefEqProofs [avCt, cCt, hd, hd2, h64, hx, hw0, hw1, hd0, hd1, hml, hm, hh, ha, ha2, spHas, spApplyV]; rfl) ?_)
              | with_reducible refine wp_drawsS (seg_eval (by simp -dsimp -implicitDefEqProofs [avCt, cCt, hd, hd2, h64, hx, hw0, hw1, hd0, hd1, hml, hm, hh, ha, ha2, spHas, spApplyV]; rfl) ?_)
              | with_reducible refine wp_draws (seg_eval (by simp -dsimp -implicitDefEqProofs [avCt, cCt, hd, hd2, h64, hx, hw0, hw1, hd0, hd1, hml, hm, hh, ha, ha2, spHas, spApplyV]; rfl) ?_)
              | with_reducible refine seg_fin ?_
              | with_reducible refine seg_pan ?_
              | with_reducible refine seg_both ?_ ?_
              | with_reducible refine seg_case (fun x h => ?_) (fun h => ?_)
              | with_reducible refine seg_gate (fun h => ?_) (fun h => ?_)
              | with_reducible refine seg_need ?_ ?_
              | with_reducible refine wp_assoc ?_ | with_reducible refine wp_skipS ?_ | with_reducible refine wp_retS ?_ | with_reducible refine wp_exitS ?_ | with_reducible refine wp_dropS (wp_eqT (by simp -dsimp -implicitDefEqProofs [avCt, cCt, hd, hd2, h64, hx, hw0, hw1, hd0, hd1, hml, hm, hh, ha, ha2, spHas, spApplyV]; rfl) ?_) | with_reducible refine wp_sealS (by simp -dsimp -implicitDefEqProofs [avCt, cCt, hd, hd2, h64, hx, hw0, hw1, hd0, hd1, hml, hm, hh, ha, ha2, spHas, spApplyV]; rfl) ?_ | with_reducible refine wp_seal (by simp -dsimp -implicitDefEqProofs [avCt, cCt, hd, hd2, h64, hx, hw0, hw1, hd0, hd1, hml, hm, hh, ha, ha2, spHas, spApplyV]; rfl) ?_ | with_reducible refine wp_closeS (by simp -dsimp -implicitDefEqProofs [avCt, cCt, hd, hd2, h64, hx, hw0, hw1, hd0, hd1, hml, hm, hh, ha, ha2, spHas, spApplyV]; rfl) ?_ | with_reducible refine wp_close (by simp -dsimp -implicitDefEqProofs [avCt, cCt, hd, hd2, h64, hx, hw0, hw1, hd0, hd1, hml, hm, hh, ha, ha2, spHas, spApplyV]; rfl) ?_ | with_reducible refine wp_conc_out ?_ | with_reducible refine wp_open_out ?_ | with_reducible refine wp_pack_out ?_ | with_reducible refine wp_blockS ?_ | with_reducible refine wp_skip' ?_ | with_reducible refine wp_ret' ?_ | with_reducible refine wp_exit' ?_ | with_reducible refine wp_drop (wp_eqT (by simp -dsimp -implicitDefEqProofs [avCt, cCt, hd, hd2, h64, hx, hw0, hw1, hd0, hd1, hml, hm, hh, ha, ha2, spHas, spApplyV]; rfl) ?_) | with_reducible refine wp_block' ?_
              | with_reducible refine wp_condVS (by simp -dsimp -implicitDefEqProofs [avCt, cCt, hd, hd2, h64, hx, hw0, hw1, hd0, hd1, hml, hm, hh, ha, ha2, spHas, spApplyV]; rfl) ?_
              | with_reducible refine wp_condV (by simp -dsimp -implicitDefEqProofs [avCt, cCt, hd, hd2, h64, hx, hw0, hw1, hd0, hd1, hml, hm, hh, ha, ha2, spHas, spApplyV]; rfl) ?_
              | with_reducible refine cond_t ?_ | with_reducible refine cond_f ?_ | with_reducible refine cond_v (fun h => ?_) (fun h => ?_)
              | with_reducible refine post_then ?_ | with_reducible refine post_thenE ?_ | with_reducible refine post_thenP ?_ | with_reducible refine post_blkP ?_ | with_reducible refine post_thenR ?_ | with_reducible refine post_blkN ?_ | with_reducible refine post_blkE ?_ | with_reducible refine post_blkF rfl ?_ | with_reducible refine post_blkR ?_
              | with_reducible refine seg_eval (by simp -dsimp -implicitDefEqProofs [avCt, cCt, hd, hd2, h64, hx, hw0, hw1, hd0, hd1, hml, hm, hh, ha, ha2, spHas, spApplyV]; rfl) ?_
          all_goals first
            | omega
            | exact post_fin rfl rfl ⟨[], [], rfl, rfl, rfl, rfl⟩
            | trace_state
        · rcases Nat.eq_zero_or_pos i with h0 | h0
          · subst h0
            repeat' first
                | with_reducible refine wp_regionS (seg_eval (by simp -dsimp -implicitDefEqProofs [avCt, cCt, hd, hd2, h64, hx, hw0, hw1, hd0, hd1, hml, hm, hh, ha, ha2, spHas, spApplyV]; rfl) ?_)
                | with_reducible refine wp_region (seg_eval (by simp -dsimp -implicitDefEqProofs [avCt, cCt, hd, hd2, h64, hx, hw0, hw1, hd0, hd1, hml, hm, hh, ha, ha2, spHas, spApplyV]; rfl) ?_)
                | with_reducible refine wp_drawsS (seg_eval (by simp -dsimp -implicitDefEqProofs [avCt, cCt, hd, hd2, h64, hx, hw0, hw1, hd0, hd1, hml, hm, hh, ha, ha2, spHas, spApplyV]; rfl) ?_)
                | with_reducible refine wp_draws (seg_eval (by simp -dsimp -implicitDefEqProofs [avCt, cCt, hd, hd2, h64, hx, hw0, hw1, hd0, hd1, hml, hm, hh, ha, ha2, spHas, spApplyV]; rfl) ?_)
                | with_reducible refine seg_fin ?_
                | with_reducible refine seg_pan ?_
                | with_reducible refine seg_both ?_ ?_
                | with_reducible refine seg_case (fun x h => ?_) (fun h => ?_)
                | with_reducible refine seg_gate (fun h => ?_) (fun h => ?_)
                | with_reducible refine seg_need ?_ ?_
                | with_reducible refine wp_assoc ?_ | with_reducible refine wp_skipS ?_ | with_reducible refine wp_retS ?_ | with_reducible refine wp_exitS ?_ | with_reducible refine wp_dropS (wp_eqT (by simp -dsimp -implicitDefEqProofs [avCt, cCt, hd, hd2, h64, hx, hw0, hw1, hd0, hd1, hml, hm, hh, ha, ha2, spHas, spApplyV]; rfl) ?_) | with_reducible refine wp_sealS (by simp -dsimp -implicitDefEqProofs [avCt, cCt, hd, hd2, h64, hx, hw0, hw1, hd0, hd1, hml, hm, hh, ha, ha2, spHas, spApplyV]; rfl) ?_ | with_reducible refine wp_seal (by simp -dsimp -implicitDefEqProofs [avCt, cCt, hd, hd2, h64, hx, hw0, hw1, hd0, hd1, hml, hm, hh, ha, ha2, spHas, spApplyV]; rfl) ?_ | with_reducible refine wp_closeS (by simp -dsimp -implicitDefEqProofs [avCt, cCt, hd, hd2, h64, hx, hw0, hw1, hd0, hd1, hml, hm, hh, ha, ha2, spHas, spApplyV]; rfl) ?_ | with_reducible refine wp_close (by simp -dsimp -implicitDefEqProofs [avCt, cCt, hd, hd2, h64, hx, hw0, hw1, hd0, hd1, hml, hm, hh, ha, ha2, spHas, spApplyV]; rfl) ?_ | with_reducible refine wp_conc_out ?_ | with_reducible refine wp_open_out ?_ | with_reducible refine wp_pack_out ?_ | with_reducible refine wp_blockS ?_ | with_reducible refine wp_skip' ?_ | with_reducible refine wp_ret' ?_ | with_reducible refine wp_exit' ?_ | with_reducible refine wp_drop (wp_eqT (by simp -dsimp -implicitDefEqProofs [avCt, cCt, hd, hd2, h64, hx, hw0, hw1, hd0, hd1, hml, hm, hh, ha, ha2, spHas, spApplyV]; rfl) ?_) | with_reducible refine wp_block' ?_
                | with_reducible refine wp_condVS (by simp -dsimp -implicitDefEqProofs [avCt, cCt, hd, hd2, h64, hx, hw0, hw1, hd0, hd1, hml, hm, hh, ha, ha2, spHas, spApplyV]; rfl) ?_
                | with_reducible refine wp_condV (by simp -dsimp -implicitDefEqProofs [avCt, cCt, hd, hd2, h64, hx, hw0, hw1, hd0, hd1, hml, hm, hh, ha, ha2, spHas, spApplyV]; rfl) ?_
                | with_reducible refine cond_t ?_ | with_reducible refine cond_f ?_ | with_reducible refine cond_v (fun h => ?_) (fun h => ?_)
                | with_reducible refine post_then ?_ | with_reducible refine post_thenE ?_ | with_reducible refine post_thenP ?_ | with_reducible refine post_blkP ?_ | with_reducible refine post_thenR ?_ | with_reducible refine post_blkN ?_ | with_reducible refine post_blkE ?_ | with_reducible refine post_blkF rfl ?_ | with_reducible refine post_blkR ?_
                | with_reducible refine seg_eval (by simp -dsimp -implicitDefEqProofs [avCt, cCt, hd, hd2, h64, hx, hw0, hw1, hd0, hd1, hml, hm, hh, ha, ha2, spHas, spApplyV]; rfl) ?_
            all_goals first
              | omega
              | exact ⟨j - 1, by omega, [], [], by simp, by simp, 1, by omega, more ha hh (fun h => by omega), by simp [avCt]; decide, by simp⟩
              | exact ⟨j - 1, by omega, [], [], by simp, by simp, 1, by omega, more ha hh (fun h => by omega), by simp [avCt], by simp⟩
              | trace_state
          · obtain ⟨i', hi'⟩ : ∃ i', i = i' + 1 := ⟨i - 1, by omega⟩
            obtain ⟨y, hy⟩ : ∃ y, l[i']? = some y := ⟨_, List.getElem?_eq_getElem (by omega)⟩
            have hyo := hok y (List.mem_of_getElem? hy)
            obtain ⟨w2, a2, d2⟩ := y
            have c0 : decide ((0 : Int) < (i : Int)) = true := by rw [decide_eq_true_eq]; omega
            have c0n : decide (0 < i) = true := by rw [decide_eq_true_eq]; omega
            have h65 : IntKind.wrap .i64 ((i : Int) - 1) = (i' : Int) := by rw [IntWalk.i64_in _ (by omega)]; omega
            by_cases hlt2 : w2 < w
            · have hc : decide (w ≤ w2) = false := by rw [decide_eq_false_iff_not]; omega
              repeat' first
                  | with_reducible refine wp_regionS (seg_eval (by simp -dsimp -implicitDefEqProofs [avCt, cCt, hd, hd2, h64, h65, hx, hy, hw0, hw1, hd0, hd1, hml, hm, hh, ha, ha2, c0, c0n, hc, hxo, hyo, spHas, spApplyV]; rfl) ?_)
                  | with_reducible refine wp_region (seg_eval (by simp -dsimp -implicitDefEqProofs [avCt, cCt, hd, hd2, h64, h65, hx, hy, hw0, hw1, hd0, hd1, hml, hm, hh, ha, ha2, c0, c0n, hc, hxo, hyo, spHas, spApplyV]; rfl) ?_)
                  | with_reducible refine wp_drawsS (seg_eval (by simp -dsimp -implicitDefEqProofs [avCt, cCt, hd, hd2, h64, h65, hx, hy, hw0, hw1, hd0, hd1, hml, hm, hh, ha, ha2, c0, c0n, hc, hxo, hyo, spHas, spApplyV]; rfl) ?_)
                  | with_reducible refine wp_draws (seg_eval (by simp -dsimp -implicitDefEqProofs [avCt, cCt, hd, hd2, h64, h65, hx, hy, hw0, hw1, hd0, hd1, hml, hm, hh, ha, ha2, c0, c0n, hc, hxo, hyo, spHas, spApplyV]; rfl) ?_)
                  | with_reducible refine seg_fin ?_
                  | with_reducible refine seg_pan ?_
                  | with_reducible refine seg_both ?_ ?_
                  | with_reducible refine seg_case (fun x h => ?_) (fun h => ?_)
                  | with_reducible refine seg_gate (fun h => ?_) (fun h => ?_)
                  | with_reducible refine seg_need ?_ ?_
                  | with_reducible refine wp_assoc ?_ | with_reducible refine wp_skipS ?_ | with_reducible refine wp_retS ?_ | with_reducible refine wp_exitS ?_ | with_reducible refine wp_dropS (wp_eqT (by simp -dsimp -implicitDefEqProofs [avCt, cCt, hd, hd2, h64, h65, hx, hy, hw0, hw1, hd0, hd1, hml, hm, hh, ha, ha2, c0, c0n, hc, hxo, hyo, spHas, spApplyV]; rfl) ?_) | with_reducible refine wp_sealS (by simp -dsimp -implicitDefEqProofs [avCt, cCt, hd, hd2, h64, h65, hx, hy, hw0, hw1, hd0, hd1, hml, hm, hh, ha, ha2, c0, c0n, hc, hxo, hyo, spHas, spApplyV]; rfl) ?_ | with_reducible refine wp_seal (by simp -dsimp -implicitDefEqProofs [avCt, cCt, hd, hd2, h64, h65, hx, hy, hw0, hw1, hd0, hd1, hml, hm, hh, ha, ha2, c0, c0n, hc, hxo, hyo, spHas, spApplyV]; rfl) ?_ | with_reducible refine wp_closeS (by simp -dsimp -implicitDefEqProofs [avCt, cCt, hd, hd2, h64, h65, hx, hy, hw0, hw1, hd0, hd1, hml, hm, hh, ha, ha2, c0, c0n, hc, hxo, hyo, spHas, spApplyV]; rfl) ?_ | with_reducible refine wp_close (by simp -dsimp -implicitDefEqProofs [avCt, cCt, hd, hd2, h64, h65, hx, hy, hw0, hw1, hd0, hd1, hml, hm, hh, ha, ha2, c0, c0n, hc, hxo, hyo, spHas, spApplyV]; rfl) ?_ | with_reducible refine wp_conc_out ?_ | with_reducible refine wp_open_out ?_ | with_reducible refine wp_pack_out ?_ | with_reducible refine wp_blockS ?_ | with_reducible refine wp_skip' ?_ | with_reducible refine wp_ret' ?_ | with_reducible refine wp_exit' ?_ | with_reducible refine wp_drop (wp_eqT (by simp -dsimp -implicitDefEqProofs [avCt, cCt, hd, hd2, h64, h65, hx, hy, hw0, hw1, hd0, hd1, hml, hm, hh, ha, ha2, c0, c0n, hc, hxo, hyo, spHas, spApplyV]; rfl) ?_) | with_reducible refine wp_block' ?_
                  | with_reducible refine wp_condVS (by simp -dsimp -implicitDefEqProofs [avCt, cCt, hd, hd2, h64, h65, hx, hy, hw0, hw1, hd0, hd1, hml, hm, hh, ha, ha2, c0, c0n, hc, hxo, hyo, spHas, spApplyV]; rfl) ?_
                  | with_reducible refine wp_condV (by simp -dsimp -implicitDefEqProofs [avCt, cCt, hd, hd2, h64, h65, hx, hy, hw0, hw1, hd0, hd1, hml, hm, hh, ha, ha2, c0, c0n, hc, hxo, hyo, spHas, spApplyV]; rfl) ?_
                  | with_reducible refine cond_t ?_ | with_reducible refine cond_f ?_ | with_reducible refine cond_v (fun h => ?_) (fun h => ?_)
                  | with_reducible refine post_then ?_ | with_reducible refine post_thenE ?_ | with_reducible refine post_thenP ?_ | with_reducible refine post_blkP ?_ | with_reducible refine post_thenR ?_ | with_reducible refine post_blkN ?_ | with_reducible refine post_blkE ?_ | with_reducible refine post_blkF rfl ?_ | with_reducible refine post_blkR ?_
                  | with_reducible refine seg_eval (by simp -dsimp -implicitDefEqProofs [avCt, cCt, hd, hd2, h64, h65, hx, hy, hw0, hw1, hd0, hd1, hml, hm, hh, ha, ha2, c0, c0n, hc, hxo, hyo, spHas, spApplyV]; rfl) ?_
              all_goals first
                | omega
                | exact ⟨hyo, hxo⟩
                | exact ⟨j - 1, by omega, [], [], by simp, by simp, i + 1, by omega, more ha hh (fun _ p hp => by rw [show i - 1 = i' by omega] at hp; rw [hy] at hp; cases hp; exact hlt2), by simp [avCt, cCt], by simp⟩
                | trace_state
            · have hc : decide (w ≤ w2) = true := by rw [decide_eq_true_eq]; omega
              have hno : boxB v m l = false := box_no fun hF => by
                have := (hF.2 i _ hx).2.2 (by omega) _ (by rw [show i - 1 = i' by omega]; exact hy)
                simp only at this; omega
              rw [hno]
              repeat' first
                  | with_reducible refine wp_regionS (seg_eval (by simp -dsimp -implicitDefEqProofs [avCt, cCt, hd, hd2, h64, h65, hx, hy, hw0, hw1, hd0, hd1, hml, hm, hh, ha, ha2, c0, c0n, hc, hxo, hyo, spHas, spApplyV]; rfl) ?_)
                  | with_reducible refine wp_region (seg_eval (by simp -dsimp -implicitDefEqProofs [avCt, cCt, hd, hd2, h64, h65, hx, hy, hw0, hw1, hd0, hd1, hml, hm, hh, ha, ha2, c0, c0n, hc, hxo, hyo, spHas, spApplyV]; rfl) ?_)
                  | with_reducible refine wp_drawsS (seg_eval (by simp -dsimp -implicitDefEqProofs [avCt, cCt, hd, hd2, h64, h65, hx, hy, hw0, hw1, hd0, hd1, hml, hm, hh, ha, ha2, c0, c0n, hc, hxo, hyo, spHas, spApplyV]; rfl) ?_)
                  | with_reducible refine wp_draws (seg_eval (by simp -dsimp -implicitDefEqProofs [avCt, cCt, hd, hd2, h64, h65, hx, hy, hw0, hw1, hd0, hd1, hml, hm, hh, ha, ha2, c0, c0n, hc, hxo, hyo, spHas, spApplyV]; rfl) ?_)
                  | with_reducible refine seg_fin ?_
                  | with_reducible refine seg_pan ?_
                  | with_reducible refine seg_both ?_ ?_
                  | with_reducible refine seg_case (fun x h => ?_) (fun h => ?_)
                  | with_reducible refine seg_gate (fun h => ?_) (fun h => ?_)
                  | with_reducible refine seg_need ?_ ?_
                  | with_reducible refine wp_assoc ?_ | with_reducible refine wp_skipS ?_ | with_reducible refine wp_retS ?_ | with_reducible refine wp_exitS ?_ | with_reducible refine wp_dropS (wp_eqT (by simp -dsimp -implicitDefEqProofs [avCt, cCt, hd, hd2, h64, h65, hx, hy, hw0, hw1, hd0, hd1, hml, hm, hh, ha, ha2, c0, c0n, hc, hxo, hyo, spHas, spApplyV]; rfl) ?_) | with_reducible refine wp_sealS (by simp -dsimp -implicitDefEqProofs [avCt, cCt, hd, hd2, h64, h65, hx, hy, hw0, hw1, hd0, hd1, hml, hm, hh, ha, ha2, c0, c0n, hc, hxo, hyo, spHas, spApplyV]; rfl) ?_ | with_reducible refine wp_seal (by simp -dsimp -implicitDefEqProofs [avCt, cCt, hd, hd2, h64, h65, hx, hy, hw0, hw1, hd0, hd1, hml, hm, hh, ha, ha2, c0, c0n, hc, hxo, hyo, spHas, spApplyV]; rfl) ?_ | with_reducible refine wp_closeS (by simp -dsimp -implicitDefEqProofs [avCt, cCt, hd, hd2, h64, h65, hx, hy, hw0, hw1, hd0, hd1, hml, hm, hh, ha, ha2, c0, c0n, hc, hxo, hyo, spHas, spApplyV]; rfl) ?_ | with_reducible refine wp_close (by simp -dsimp -implicitDefEqProofs [avCt, cCt, hd, hd2, h64, h65, hx, hy, hw0, hw1, hd0, hd1, hml, hm, hh, ha, ha2, c0, c0n, hc, hxo, hyo, spHas, spApplyV]; rfl) ?_ | with_reducible refine wp_conc_out ?_ | with_reducible refine wp_open_out ?_ | with_reducible refine wp_pack_out ?_ | with_reducible refine wp_blockS ?_ | with_reducible refine wp_skip' ?_ | with_reducible refine wp_ret' ?_ | with_reducible refine wp_exit' ?_ | with_reducible refine wp_drop (wp_eqT (by simp -dsimp -implicitDefEqProofs [avCt, cCt, hd, hd2, h64, h65, hx, hy, hw0, hw1, hd0, hd1, hml, hm, hh, ha, ha2, c0, c0n, hc, hxo, hyo, spHas, spApplyV]; rfl) ?_) | with_reducible refine wp_block' ?_
                  | with_reducible refine wp_condVS (by simp -dsimp -implicitDefEqProofs [avCt, cCt, hd, hd2, h64, h65, hx, hy, hw0, hw1, hd0, hd1, hml, hm, hh, ha, ha2, c0, c0n, hc, hxo, hyo, spHas, spApplyV]; rfl) ?_
                  | with_reducible refine wp_condV (by simp -dsimp -implicitDefEqProofs [avCt, cCt, hd, hd2, h64, h65, hx, hy, hw0, hw1, hd0, hd1, hml, hm, hh, ha, ha2, c0, c0n, hc, hxo, hyo, spHas, spApplyV]; rfl) ?_
                  | with_reducible refine cond_t ?_ | with_reducible refine cond_f ?_ | with_reducible refine cond_v (fun h => ?_) (fun h => ?_)
                  | with_reducible refine post_then ?_ | with_reducible refine post_thenE ?_ | with_reducible refine post_thenP ?_ | with_reducible refine post_blkP ?_ | with_reducible refine post_thenR ?_ | with_reducible refine post_blkN ?_ | with_reducible refine post_blkE ?_ | with_reducible refine post_blkF rfl ?_ | with_reducible refine post_blkR ?_
                  | with_reducible refine seg_eval (by simp -dsimp -implicitDefEqProofs [avCt, cCt, hd, hd2, h64, h65, hx, hy, hw0, hw1, hd0, hd1, hml, hm, hh, ha, ha2, c0, c0n, hc, hxo, hyo, spHas, spApplyV]; rfl) ?_
              all_goals first
                | omega
                | exact ⟨hyo, hxo⟩
                | exact post_fin rfl rfl ⟨[], [], rfl, rfl, rfl, rfl⟩
                | trace_state
      · have ha2 : ((applyV v m a d.toNat).2 != 0) = true := by simp [ha]
        have hno : boxB v m l = false := box_no fun hF => ha (by have := (hF.2 i _ hx).1; exact this)
        rw [hno]
        repeat' first
            | with_reducible refine wp_regionS (seg_eval (by simp -dsimp -implicitDefEqProofs [avCt, cCt, hd, hd2, h64, hx, hw0, hw1, hd0, hd1, hml, hm, ha2, spApplyV]; rfl) ?_)
            | with_reducible refine wp_region (seg_eval (by simp -dsimp -implicitDefEqProofs [avCt, cCt, hd, hd2, h64, hx, hw0, hw1, hd0, hd1, hml, hm, ha2, spApplyV]; rfl) ?_)
            | with_reducible refine wp_drawsS (seg_eval (by simp -dsimp -implicitDefEqProofs [avCt, cCt, hd, hd2, h64, hx, hw0, hw1, hd0, hd1, hml, hm, ha2, spApplyV]; rfl) ?_)
            | with_reducible refine wp_draws (seg_eval (by simp -dsimp -implicitDefEqProofs [avCt, cCt, hd, hd2, h64, hx, hw0, hw1, hd0, hd1, hml, hm, ha2, spApplyV]; rfl) ?_)
            | with_reducible refine seg_fin ?_
            | with_reducible refine seg_pan ?_
            | with_reducible refine seg_both ?_ ?_
            | with_reducible refine seg_case (fun x h => ?_) (fun h => ?_)
            | with_reducible refine seg_gate (fun h => ?_) (fun h => ?_)
            | with_reducible refine seg_need ?_ ?_
            | with_reducible refine wp_assoc ?_ | with_reducible refine wp_skipS ?_ | with_reducible refine wp_retS ?_ | with_reducible refine wp_exitS ?_ | with_reducible refine wp_dropS (wp_eqT (by simp -dsimp -implicitDefEqProofs [avCt, cCt, hd, hd2, h64, hx, hw0, hw1, hd0, hd1, hml, hm, ha2, spApplyV]; rfl) ?_) | with_reducible refine wp_sealS (by simp -dsimp -implicitDefEqProofs [avCt, cCt, hd, hd2, h64, hx, hw0, hw1, hd0, hd1, hml, hm, ha2, spApplyV]; rfl) ?_ | with_reducible refine wp_seal (by simp -dsimp -implicitDefEqProofs [avCt, cCt, hd, hd2, h64, hx, hw0, hw1, hd0, hd1, hml, hm, ha2, spApplyV]; rfl) ?_ | with_reducible refine wp_closeS (by simp -dsimp -implicitDefEqProofs [avCt, cCt, hd, hd2, h64, hx, hw0, hw1, hd0, hd1, hml, hm, ha2, spApplyV]; rfl) ?_ | with_reducible refine wp_close (by simp -dsimp -implicitDefEqProofs [avCt, cCt, hd, hd2, h64, hx, hw0, hw1, hd0, hd1, hml, hm, ha2, spApplyV]; rfl) ?_ | with_reducible refine wp_conc_out ?_ | with_reducible refine wp_open_out ?_ | with_reducible refine wp_pack_out ?_ | with_reducible refine wp_blockS ?_ | with_reducible refine wp_skip' ?_ | with_reducible refine wp_ret' ?_ | with_reducible refine wp_exit' ?_ | with_reducible refine wp_drop (wp_eqT (by simp -dsimp -implicitDefEqProofs [avCt, cCt, hd, hd2, h64, hx, hw0, hw1, hd0, hd1, hml, hm, ha2, spApplyV]; rfl) ?_) | with_reducible refine wp_block' ?_
            | with_reducible refine wp_condVS (by simp -dsimp -implicitDefEqProofs [avCt, cCt, hd, hd2, h64, hx, hw0, hw1, hd0, hd1, hml, hm, ha2, spApplyV]; rfl) ?_
            | with_reducible refine wp_condV (by simp -dsimp -implicitDefEqProofs [avCt, cCt, hd, hd2, h64, hx, hw0, hw1, hd0, hd1, hml, hm, ha2, spApplyV]; rfl) ?_
            | with_reducible refine cond_t ?_ | with_reducible refine cond_f ?_ | with_reducible refine cond_v (fun h => ?_) (fun h => ?_)
            | with_reducible refine post_then ?_ | with_reducible refine post_thenE ?_ | with_reducible refine post_thenP ?_ | with_reducible refine post_blkP ?_ | with_reducible refine post_thenR ?_ | with_reducible refine post_blkN ?_ | with_reducible refine post_blkE ?_ | with_reducible refine post_blkF rfl ?_ | with_reducible refine post_blkR ?_
            | with_reducible refine seg_eval (by simp -dsimp -implicitDefEqProofs [avCt, cCt, hd, hd2, h64, hx, hw0, hw1, hd0, hd1, hml, hm, ha2, spApplyV]; rfl) ?_
        all_goals first
          | omega
          | exact post_fin rfl rfl ⟨[], [], rfl, rfl, rfl, rfl⟩
          | trace_state
    · have hd : decide ((i : Int) < (l.length : Int)) = false := by rw [decide_eq_false_iff_not]; omega
      have hd2 : decide (i < l.length) = false := by simp [hlt]
      have hall : CtF v m l := fun k n hn => hlo k n (by have := (List.getElem?_eq_some_iff.1 hn).1; omega) hn
      have hyes : boxB v m l = rightV v m := by
        cases hr : rightV v m
        · exact box_no fun hF => by rw [hF.1] at hr; cases hr
        · exact box_yes ⟨hr, hall⟩
      rw [hyes]
      repeat' first
          | with_reducible refine wp_regionS (seg_eval (by simp -dsimp -implicitDefEqProofs [hd, hd2, hml, hm, spRightV]; rfl) ?_)
          | with_reducible refine wp_region (seg_eval (by simp -dsimp -implicitDefEqProofs [hd, hd2, hml, hm, spRightV]; rfl) ?_)
          | with_reducible refine wp_drawsS (seg_eval (by simp -dsimp -implicitDefEqProofs [hd, hd2, hml, hm, spRightV]; rfl) ?_)
          | with_reducible refine wp_draws (seg_eval (by simp -dsimp -implicitDefEqProofs [hd, hd2, hml, hm, spRightV]; rfl) ?_)
          | with_reducible refine seg_fin ?_
          | with_reducible refine seg_pan ?_
          | with_reducible refine seg_both ?_ ?_
          | with_reducible refine seg_case (fun x h => ?_) (fun h => ?_)
          | with_reducible refine seg_gate (fun h => ?_) (fun h => ?_)
          | with_reducible refine seg_need ?_ ?_
          | with_reducible refine wp_assoc ?_ | with_reducible refine wp_skipS ?_ | with_reducible refine wp_retS ?_ | with_reducible refine wp_exitS ?_ | with_reducible refine wp_dropS (wp_eqT (by simp -dsimp -implicitDefEqProofs [hd, hd2, hml, hm, spRightV]; rfl) ?_) | with_reducible refine wp_sealS (by simp -dsimp -implicitDefEqProofs [hd, hd2, hml, hm, spRightV]; rfl) ?_ | with_reducible refine wp_seal (by simp -dsimp -implicitDefEqProofs [hd, hd2, hml, hm, spRightV]; rfl) ?_ | with_reducible refine wp_closeS (by simp -dsimp -implicitDefEqProofs [hd, hd2, hml, hm, spRightV]; rfl) ?_ | with_reducible refine wp_close (by simp -dsimp -implicitDefEqProofs [hd, hd2, hml, hm, spRightV]; rfl) ?_ | with_reducible refine wp_conc_out ?_ | with_reducible refine wp_open_out ?_ | with_reducible refine wp_pack_out ?_ | with_reducible refine wp_blockS ?_ | with_reducible refine wp_skip' ?_ | with_reducible refine wp_ret' ?_ | with_reducible refine wp_exit' ?_ | with_reducible refine wp_drop (wp_eqT (by simp -dsimp -implicitDefEqProofs [hd, hd2, hml, hm, spRightV]; rfl) ?_) | with_reducible refine wp_block' ?_
          | with_reducible refine wp_condVS (by simp -dsimp -implicitDefEqProofs [hd, hd2, hml, hm, spRightV]; rfl) ?_
          | with_reducible refine wp_condV (by simp -dsimp -implicitDefEqProofs [hd, hd2, hml, hm, spRightV]; rfl) ?_
          | with_reducible refine cond_t ?_ | with_reducible refine cond_f ?_ | with_reducible refine cond_v (fun h => ?_) (fun h => ?_)
          | with_reducible refine post_then ?_ | with_reducible refine post_thenE ?_ | with_reducible refine post_thenP ?_ | with_reducible refine post_blkP ?_ | with_reducible refine post_thenR ?_ | with_reducible refine post_blkN ?_ | with_reducible refine post_blkE ?_ | with_reducible refine post_blkF rfl ?_ | with_reducible refine post_blkR ?_
          | with_reducible refine seg_eval (by simp -dsimp -implicitDefEqProofs [hd, hd2, hml, hm, spRightV]; rfl) ?_
      all_goals first
        | omega
        | exact post_fin rfl rfl ⟨[], [], rfl, rfl, rfl, rfl⟩
        | trace_state
end Go.Proofs.Ytbponegjfccgfaa.Am
