/-
  WHAT IS CHOSEN, told by both sides.
-/
import Derived.Test.YtbponegjfccgfaaB6
namespace Go.Proofs.Ytbponegjfccgfaa.Am
set_option linter.unusedSimpArgs false
set_option linter.unusedVariables false
open Go Go.Proofs
attribute [local irreducible] wpA
attribute [-simp] splice

noncomputable def goodC (v : Int) (m : Nat) (l : List Ct) (n : Int) (c : Ct) : Bool := decide (n ≤ ((sizeS (forC v m l c.add c.id) : Nat) : Int))
noncomputable def idxC (v : Int) (m : Nat) (l : List Ct) (n : Int) : Int := match l.findIdx? (goodC v m l n) with
  | some i => (i : Int)
  | none => -1
noncomputable def chosenC (v : Int) (m : Nat) (l : List Ct) : (Bool × Int) × Bool := match l.find? (goodC v m l (echoesS (sizeS m))) with
  | some c => ((c.add, c.id), true)
  | none => ((false, 0), false)

noncomputable def spClo : Spec := spc (X := Int × Nat × List Ct × Int × Ct) (fun p => ([avCt p.2.2.2.2, .fptr (avBox p.1 p.2.1 p.2.2.1) 0, .fptr (.agg [.v (.int .i64 p.2.2.2.1)]) 0], []))
  (fun p => p.2.1 < 65536 ∧ p.2.2.1.length ≤ 1000000 ∧ (∀ y ∈ p.2.2.1, okCt y)) (fun p => (.ret (.v (.bool (goodC p.1 p.2.1 p.2.2.1 p.2.2.2.1 p.2.2.2.2))), []))
open Classical in
theorem cloAt (v : Int) (m : Nat) (l : List Ct) (n : Int) (w : Int) (a : Bool) (d : Int) : spClo [.agg [.v (.int .u8 w), .v (.bool a), .v (.int .u8 d)], .fptr (.agg [.v (.int .i64 v), .v (.int .u16 (m : Nat)), .fsl 3 (l.map avCt)]) 0, .fptr (.agg [.v (.int .i64 n)]) 0] [] =
    if m < 65536 ∧ l.length ≤ 1000000 ∧ (∀ y ∈ l, okCt y) then some (.ret (.v (.bool (goodC v m l n ⟨w, a, d⟩))), []) else none :=
  spc_at (f := fun p : Int × Nat × List Ct × Int × Ct => ([avCt p.2.2.2.2, .fptr (avBox p.1 p.2.1 p.2.2.1) 0, .fptr (.agg [.v (.int .i64 p.2.2.2.1)]) 0], [])) (fun x y h => by
    simp only [Prod.mk.injEq, List.cons.injEq, and_true, AV.fptr.injEq, AV.agg.injEq, AV.v.injEq, Value.int.injEq, true_and] at h
    obtain ⟨h1, h2, h3⟩ := avBox_inj h.2.1
    exact Prod.ext h1 (Prod.ext h2 (Prod.ext h3 (Prod.ext h.2.2 (inj_avCt h.1))))) (v, m, l, n, (⟨w, a, d⟩ : Ct))
set_option maxHeartbeats 4000000 in
theorem clo_ok : CallOk Try.prog 61 spClo := by
  refine ok_61 (Env.put_ok [] (Env.put_ok [] (Env.none_ok _) forC_ok) size_ok) spClo (wb_spc ?_)
  rintro ⟨v, m, l, n, ⟨w, a, d⟩⟩ ⟨hm, hll, hok⟩
  simp only [avBox, avCt, cCt, goodC] at hm hll hok ⊢
  have hlt := forC_lt v m l a d
  unfold ac_61
  repeat' first
      | with_reducible refine wp_regionS (seg_eval (by simp -dsimp -implicitDefEqProofs [hm, hll, hlt, forCAt, spSize]; rfl) ?_)
      | with_reducible refine wp_region (seg_eval (by simp -dsimp -implicitDefEqProofs [hm, hll, hlt, forCAt, spSize]; rfl) ?_)
      | with_reducible refine wp_drawsS (seg_eval (by simp -dsimp -implicitDefEqProofs [hm, hll, hlt, forCAt, spSize]; rfl) ?_)
      | with_reducible refine wp_draws (seg_eval (by simp -dsimp -implicitDefEqProofs [hm, hll, hlt, forCAt, spSize]; rfl) ?_)
      | with_reducible refine seg_fin ?_
      | with_reducible refine seg_pan ?_
      | with_reducible refine seg_both ?_ ?_
      | with_reducible refine seg_case (fun x h => ?_) (fun h => ?_)
      | with_reducible refine seg_gate (fun h => ?_) (fun h => ?_)
      | with_reducible refine seg_need ?_ ?_
      | with_reducible refine wp_assoc ?_ | with_reducible refine wp_skipS ?_ | with_reducible refine wp_retS ?_ | with_reducible refine wp_exitS ?_ | with_reducible refine wp_dropS (wp_eqT (by simp -dsimp -implicitDefEqProofs [hm, hll, hlt, forCAt, spSize]; rfl) ?_) | with_reducible refine wp_sealS (by simp -dsimp -implicitDefEqProofs [hm, hll, hlt, forCAt, spSize]; rfl) ?_ | with_reducible refine wp_seal (by simp -dsimp -implicitDefEqProofs [hm, hll, hlt, forCAt, spSize]; rfl) ?_ | with_reducible refine wp_closeS (by simp -dsimp -implicitDefEqProofs [hm, hll, hlt, forCAt, spSize]; rfl) ?_ | with_reducible refine wp_close (by simp -dsimp -implicitDefEqProofs [hm, hll, hlt, forCAt, spSize]; rfl) ?_ | with_reducible refine wp_conc_out ?_ | with_reducible refine wp_open_out ?_ | with_reducible refine wp_pack_out ?_ | with_reducible refine wp_blockS ?_ | with_reducible refine wp_skip' ?_ | with_reducible refine wp_ret' ?_ | with_reducible refine wp_exit' ?_ | with_reducible refine wp_drop (wp_eqT (by simp -dsimp -implicitDefEqProofs [hm, hll, hlt, forCAt, spSize]; rfl) ?_) | with_reducible refine wp_block' ?_
      | with_reducible refine wp_condVS (by simp -dsimp -implicitDefEqProofs [hm, hll, hlt, forCAt, spSize]; rfl) ?_
      | with_reducible refine wp_condV (by simp -dsimp -implicitDefEqProofs [hm, hll, hlt, forCAt, spSize]; rfl) ?_
      | with_reducible refine cond_t ?_ | with_reducible refine cond_f ?_ | with_reducible refine cond_v (fun h => ?_) (fun h => ?_)
      | with_reducible refine post_then ?_ | with_reducible refine post_thenE ?_ | with_reducible refine post_thenP ?_ | with_reducible refine post_blkP ?_ | with_reducible refine post_thenR ?_ | with_reducible refine post_blkN ?_ | with_reducible refine post_blkE ?_ | with_reducible refine post_blkF rfl ?_ | with_reducible refine post_blkR ?_
      | with_reducible refine seg_eval (by simp -dsimp -implicitDefEqProofs [hm, hll, hlt, forCAt, spSize]; rfl) ?_
  all_goals first
    | omega
    | exact hok
    | exact post_fin rfl rfl ⟨[], [], rfl, rfl, rfl, rfl⟩
    | trace_state

noncomputable def spIdx : Spec := spc (X := Int × Nat × List Ct × Int) (fun p => ([.fsl 3 (p.2.2.1.map avCt), .fn 61 [.fptr (avBox p.1 p.2.1 p.2.2.1) 0, .fptr (.agg [.v (.int .i64 p.2.2.2)]) 0]], []))
  (fun p => p.2.1 < 65536 ∧ p.2.2.1.length ≤ 1000000 ∧ (∀ y ∈ p.2.2.1, okCt y)) (fun p => (.ret (.v (.int .i64 (idxC p.1 p.2.1 p.2.2.1 p.2.2.2))), []))
open Classical in
theorem idxAt (v : Int) (m : Nat) (l : List Ct) (n : Int) : spIdx [.fsl 3 (l.map avCt), .fn 61 [.fptr (.agg [.v (.int .i64 v), .v (.int .u16 (m : Nat)), .fsl 3 (l.map avCt)]) 0, .fptr (.agg [.v (.int .i64 n)]) 0]] [] =
    if m < 65536 ∧ l.length ≤ 1000000 ∧ (∀ y ∈ l, okCt y) then some (.ret (.v (.int .i64 (idxC v m l n))), []) else none :=
  spc_at (f := fun p : Int × Nat × List Ct × Int => ([.fsl 3 (p.2.2.1.map avCt), .fn 61 [.fptr (avBox p.1 p.2.1 p.2.2.1) 0, .fptr (.agg [.v (.int .i64 p.2.2.2)]) 0]], [])) (fun x y h => by
    simp only [Prod.mk.injEq, List.cons.injEq, and_true, AV.fn.injEq, AV.fptr.injEq, AV.agg.injEq, AV.v.injEq, Value.int.injEq, true_and] at h
    obtain ⟨h1, h2, h3⟩ := avBox_inj h.2.1
    exact Prod.ext h1 (Prod.ext h2 (Prod.ext h3 h.2.2))) (v, m, l, n)
theorem idx_some {v : Int} {m : Nat} {l : List Ct} {n : Int} {i : Nat} {c : Ct} (hx : l[i]? = some c) (h1 : ∀ (k : Nat) (x : Ct), k < i → l[k]? = some x → goodC v m l n x = false) (h2 : goodC v m l n c = true) :
    idxC v m l n = (i : Int) ∧ l.find? (goodC v m l n) = some c := by
  obtain ⟨hlt, rfl⟩ := List.getElem?_eq_some_iff.1 hx
  have e : l.findIdx? (goodC v m l n) = some i := List.findIdx?_eq_some_iff_getElem.2 ⟨hlt, h2, fun j hj => by
    have := h1 j l[j] hj (List.getElem?_eq_getElem (by omega))
    simp [this]⟩
  refine ⟨by unfold idxC; rw [e], List.find?_eq_some_iff_getElem.2 ⟨h2, i, hlt, rfl, fun j hj => ?_⟩⟩
  have := h1 j l[j] hj (List.getElem?_eq_getElem (by omega))
  simp [this]
theorem idx_none {v : Int} {m : Nat} {l : List Ct} {n : Int} (h1 : ∀ (k : Nat) (x : Ct), l[k]? = some x → goodC v m l n x = false) :
    idxC v m l n = -1 ∧ l.find? (goodC v m l n) = none := by
  have h2 : ∀ x ∈ l, goodC v m l n x = false := fun x hx => by
    obtain ⟨k, hk⟩ := List.mem_iff_getElem?.1 hx
    exact h1 k x hk
  have e : l.findIdx? (goodC v m l n) = none := List.findIdx?_eq_none_iff.2 h2
  exact ⟨by unfold idxC; rw [e], List.find?_eq_none.2 fun x hx => by simp [h2 x hx]⟩
set_option maxHeartbeats 4000000 in
theorem idx_ok : CallOk Try.prog 60 spIdx := by
  refine ok_60 (Env.put_ok [] (Env.none_ok _) clo_ok) spIdx (wb_spc ?_)
  rintro ⟨v, m, l, n⟩ ⟨hm, hll, hok⟩
  simp only [avBox] at hm hll hok ⊢
  unfold ac_60
  repeat' first
      | with_reducible refine wp_regionS (seg_eval (by simp -dsimp -implicitDefEqProofs; rfl) ?_)
      | with_reducible refine wp_region (seg_eval (by simp -dsimp -implicitDefEqProofs; rfl) ?_)
      | with_reducible refine wp_drawsS (seg_eval (by simp -dsimp -implicitDefEqProofs; rfl) ?_)
      | with_reducible refine wp_draws (seg_eval (by simp -dsimp -implicitDefEqProofs; rfl) ?_)
      | with_reducible refine seg_fin ?_
      | with_reducible refine seg_pan ?_
      | with_reducible refine seg_both ?_ ?_
      | with_reducible refine seg_case (fun x h => ?_) (fun h => ?_)
      | with_reducible refine seg_gate (fun h => ?_) (fun h => ?_)
      | with_reducible refine seg_need ?_ ?_
      | with_reducible refine wp_assoc ?_ | with_reducible refine wp_skipS ?_ | with_reducible refine wp_retS ?_ | with_reducible refine wp_exitS ?_ | with_reducible refine wp_dropS (wp_eqT (by simp -dsimp -implicitDefEqProofs; rfl) ?_) | with_reducible refine wp_sealS (by simp -dsimp -implicitDefEqProofs; rfl) ?_ | with_reducible refine wp_seal (by simp -dsimp -implicitDefEqProofs; rfl) ?_ | with_reducible refine wp_closeS (by simp -dsimp -implicitDefEqProofs; rfl) ?_ | with_reducible refine wp_close (by simp -dsimp -implicitDefEqProofs; rfl) ?_ | with_reducible refine wp_conc_out ?_ | with_reducible refine wp_open_out ?_ | with_reducible refine wp_pack_out ?_ | with_reducible refine wp_blockS ?_ | with_reducible refine wp_skip' ?_ | with_reducible refine wp_ret' ?_ | with_reducible refine wp_exit' ?_ | with_reducible refine wp_drop (wp_eqT (by simp -dsimp -implicitDefEqProofs; rfl) ?_) | with_reducible refine wp_block' ?_
      | with_reducible refine wp_condVS (by simp -dsimp -implicitDefEqProofs; rfl) ?_
      | with_reducible refine wp_condV (by simp -dsimp -implicitDefEqProofs; rfl) ?_
      | with_reducible refine cond_t ?_ | with_reducible refine cond_f ?_ | with_reducible refine cond_v (fun h => ?_) (fun h => ?_)
      | with_reducible refine post_then ?_ | with_reducible refine post_thenE ?_ | with_reducible refine post_thenP ?_ | with_reducible refine post_blkP ?_ | with_reducible refine post_thenR ?_ | with_reducible refine post_blkN ?_ | with_reducible refine post_blkE ?_ | with_reducible refine post_blkF rfl ?_ | with_reducible refine post_blkR ?_
      | with_reducible refine seg_eval (by simp -dsimp -implicitDefEqProofs; rfl) ?_
  refine wp_loop' (fun j ts mm => ∃ i : Nat, i + j = l.length ∧ (∀ (k : Nat) (x : Ct), k < i → l[k]? = some x → goodC v m l n x = false) ∧
    ts = [(0, .fsl 3 (l.map avCt)), (1, .fn 61 [.fptr (.agg [.v (.int .i64 v), .v (.int .u16 (m : Nat)), .fsl 3 (l.map avCt)]) 0, .fptr (.agg [.v (.int .i64 n)]) 0]), (7, .v (.int .i64 l.length)), (8, .v (.int .i64 i))] ∧ mm = []) l.length ?_ ?_
  · exact ⟨[], [], by simp, by simp, 0, by omega, fun k x hk => by omega, by simp, by simp⟩
  · rintro j ts mm ⟨i, hi, hlo, rfl, rfl⟩
    by_cases hlt : i < l.length
    · obtain ⟨x, hx⟩ : ∃ x, l[i]? = some x := ⟨_, List.getElem?_eq_getElem (by omega)⟩
      have hd : decide ((i : Int) < (l.length : Int)) = true := by rw [decide_eq_true_eq]; omega
      have hd2 : decide (i < l.length) = true := by simp [hlt]
      have h64 : IntKind.wrap .i64 ((i : Int) + 1) = ((i + 1 : Nat) : Int) := by rw [IntWalk.i64_in _ (by omega)]; rfl
      cases hg : goodC v m l n x
      · have hlo2 : ∀ (k : Nat) (y : Ct), k < i + 1 → l[k]? = some y → goodC v m l n y = false := fun k y hk hy => by
          by_cases hki : k = i
          · subst hki; rw [hx] at hy; cases hy; exact hg
          · exact hlo k y (by omega) hy
        obtain ⟨w, a, d⟩ := x
        repeat' first
            | with_reducible refine wp_regionS (seg_eval (by simp -dsimp -implicitDefEqProofs [avCt, cCt, hd, hd2, h64, hx, hm, hll, hg, cloAt]; rfl) ?_)
            | with_reducible refine wp_region (seg_eval (by simp -dsimp -implicitDefEqProofs [avCt, cCt, hd, hd2, h64, hx, hm, hll, hg, cloAt]; rfl) ?_)
            | with_reducible refine wp_drawsS (seg_eval (by simp -dsimp -implicitDefEqProofs [avCt, cCt, hd, hd2, h64, hx, hm, hll, hg, cloAt]; rfl) ?_)
            | with_reducible refine wp_draws (seg_eval (by simp -dsimp -implicitDefEqProofs [avCt, cCt, hd, hd2, h64, hx, hm, hll, hg, cloAt]; rfl) ?_)
            | with_reducible refine seg_fin ?_
            | with_reducible refine seg_pan ?_
            | with_reducible refine seg_both ?_ ?_
            | with_reducible refine seg_case (fun x h => ?_) (fun h => ?_)
            | with_reducible refine seg_gate (fun h => ?_) (fun h => ?_)
            | with_reducible refine seg_need ?_ ?_
            | with_reducible refine wp_assoc ?_ | with_reducible refine wp_skipS ?_ | with_reducible refine wp_retS ?_ | with_reducible refine wp_exitS ?_ | with_reducible refine wp_dropS (wp_eqT (by simp -dsimp -implicitDefEqProofs [avCt, cCt, hd, hd2, h64, hx, hm, hll, hg, cloAt]; rfl) ?_) | with_reducible refine wp_sealS (by simp -dsimp -implicitDefEqProofs [avCt, cCt, hd, hd2, h64, hx, hm, hll, hg, cloAt]; rfl) ?_ | with_reducible refine wp_seal (by simp -dsimp -implicitDefEqProofs [avCt, cCt, hd, hd2, h64, hx, hm, hll, hg, cloAt]; rfl) ?_ | with_reducible refine wp_closeS (by simp -dsimp -implicitDefEqProofs [avCt, cCt, hd, hd2, h64, hx, hm, hll, hg, cloAt]; rfl) ?_ | with_reducible refine wp_close (by simp -dsimp -implicitDefEqProofs [avCt, cCt, hd, hd2, h64, hx, hm, hll, hg, cloAt]; rfl) ?_ | with_reducible refine wp_conc_out ?_ | with_reducible refine wp_open_out ?_ | with_reducible refine wp_pack_out ?_ | with_reducible refine wp_blockS ?_ | with_reducible refine wp_skip' ?_ | with_reducible refine wp_ret' ?_ | with_reducible refine wp_exit' ?_ | with_reducible refine wp_drop (wp_eqT (by simp -dsimp -implicitDefEqProofs [avCt, cCt, hd, hd2, h64, hx, hm, hll, hg, cloAt]; rfl) ?_) | with_reducible refine wp_block' ?_
            | with_reducible refine wp_condVS (by simp -dsimp -implicitDefEqProofs [avCt, cCt, hd, hd2, h64, hx, hm, hll, hg, cloAt]; rfl) ?_
            | with_reducible refine wp_condV (by simp -dsimp -implicitDefEqProofs [avCt, cCt, hd, hd2, h64, hx, hm, hll, hg, cloAt]; rfl) ?_
            | with_reducible refine cond_t ?_ | with_reducible refine cond_f ?_ | with_reducible refine cond_v (fun h => ?_) (fun h => ?_)
            | with_reducible refine post_then ?_ | with_reducible refine post_thenE ?_ | with_reducible refine post_thenP ?_ | with_reducible refine post_blkP ?_ | with_reducible refine post_thenR ?_ | with_reducible refine post_blkN ?_ | with_reducible refine post_blkE ?_ | with_reducible refine post_blkF rfl ?_ | with_reducible refine post_blkR ?_
            | with_reducible refine seg_eval (by simp -dsimp -implicitDefEqProofs [avCt, cCt, hd, hd2, h64, hx, hm, hll, hg, cloAt]; rfl) ?_
        all_goals first
          | omega
          | exact hok
          | exact ⟨j - 1, by omega, [], [], by simp, by simp, i + 1, by omega, hlo2, by simp [avCt, cCt], by simp⟩
          | trace_state
      · have he := (idx_some hx hlo hg).1
        rw [he]
        obtain ⟨w, a, d⟩ := x
        repeat' first
            | with_reducible refine wp_regionS (seg_eval (by simp -dsimp -implicitDefEqProofs [avCt, cCt, hd, hd2, h64, hx, hm, hll, hg, cloAt]; rfl) ?_)
            | with_reducible refine wp_region (seg_eval (by simp -dsimp -implicitDefEqProofs [avCt, cCt, hd, hd2, h64, hx, hm, hll, hg, cloAt]; rfl) ?_)
            | with_reducible refine wp_drawsS (seg_eval (by simp -dsimp -implicitDefEqProofs [avCt, cCt, hd, hd2, h64, hx, hm, hll, hg, cloAt]; rfl) ?_)
            | with_reducible refine wp_draws (seg_eval (by simp -dsimp -implicitDefEqProofs [avCt, cCt, hd, hd2, h64, hx, hm, hll, hg, cloAt]; rfl) ?_)
            | with_reducible refine seg_fin ?_
            | with_reducible refine seg_pan ?_
            | with_reducible refine seg_both ?_ ?_
            | with_reducible refine seg_case (fun x h => ?_) (fun h => ?_)
            | with_reducible refine seg_gate (fun h => ?_) (fun h => ?_)
            | with_reducible refine seg_need ?_ ?_
            | with_reducible refine wp_assoc ?_ | with_reducible refine wp_skipS ?_ | with_reducible refine wp_retS ?_ | with_reducible refine wp_exitS ?_ | with_reducible refine wp_dropS (wp_eqT (by simp -dsimp -implicitDefEqProofs [avCt, cCt, hd, hd2, h64, hx, hm, hll, hg, cloAt]; rfl) ?_) | with_reducible refine wp_sealS (by simp -dsimp -implicitDefEqProofs [avCt, cCt, hd, hd2, h64, hx, hm, hll, hg, cloAt]; rfl) ?_ | with_reducible refine wp_seal (by simp -dsimp -implicitDefEqProofs [avCt, cCt, hd, hd2, h64, hx, hm, hll, hg, cloAt]; rfl) ?_ | with_reducible refine wp_closeS (by simp -dsimp -implicitDefEqProofs [avCt, cCt, hd, hd2, h64, hx, hm, hll, hg, cloAt]; rfl) ?_ | with_reducible refine wp_close (by simp -dsimp -implicitDefEqProofs [avCt, cCt, hd, hd2, h64, hx, hm, hll, hg, cloAt]; rfl) ?_ | with_reducible refine wp_conc_out ?_ | with_reducible refine wp_open_out ?_ | with_reducible refine wp_pack_out ?_ | with_reducible refine wp_blockS ?_ | with_reducible refine wp_skip' ?_ | with_reducible refine wp_ret' ?_ | with_reducible refine wp_exit' ?_ | with_reducible refine wp_drop (wp_eqT (by simp -dsimp -implicitDefEqProofs [avCt, cCt, hd, hd2, h64, hx, hm, hll, hg, cloAt]; rfl) ?_) | with_reducible refine wp_block' ?_
            | with_reducible refine wp_condVS (by simp -dsimp -implicitDefEqProofs [avCt, cCt, hd, hd2, h64, hx, hm, hll, hg, cloAt]; rfl) ?_
            | with_reducible refine wp_condV (by simp -dsimp -implicitDefEqProofs [avCt, cCt, hd, hd2, h64, hx, hm, hll, hg, cloAt]; rfl) ?_
            | with_reducible refine cond_t ?_ | with_reducible refine cond_f ?_ | with_reducible refine cond_v (fun h => ?_) (fun h => ?_)
            | with_reducible refine post_then ?_ | with_reducible refine post_thenE ?_ | with_reducible refine post_thenP ?_ | with_reducible refine post_blkP ?_ | with_reducible refine post_thenR ?_ | with_reducible refine post_blkN ?_ | with_reducible refine post_blkE ?_ | with_reducible refine post_blkF rfl ?_ | with_reducible refine post_blkR ?_
            | with_reducible refine seg_eval (by simp -dsimp -implicitDefEqProofs [avCt, cCt, hd, hd2, h64, hx, hm, hll, hg, cloAt]; rfl) ?_
        all_goals first
          | omega
          | exact hok
          | exact post_fin rfl rfl ⟨[], [], rfl, rfl, rfl, rfl⟩
          | trace_state
    · have hd : decide ((i : Int) < (l.length : Int)) = false := by rw [decide_eq_false_iff_not]; omega
      have hd2 : decide (i < l.length) = false := by simp [hlt]
      have he := (idx_none (v := v) (m := m) (l := l) (n := n) fun k x hk => hlo k x (by have := (List.getElem?_eq_some_iff.1 hk).1; omega) hk).1
      rw [he]
      repeat' first
          | with_reducible refine wp_regionS (seg_eval (by simp -dsimp -implicitDefEqProofs [hd, hd2]; rfl) ?_)
          | with_reducible refine wp_region (seg_eval (by simp -dsimp -implicitDefEqProofs [hd, hd2]; rfl) ?_)
          | with_reducible refine wp_drawsS (seg_eval (by simp -dsimp -implicitDefEqProofs [hd, hd2]; rfl) ?_)
          | with_reducible refine wp_draws (seg_eval (by simp -dsimp -implicitDefEqProofs [hd, hd2]; rfl) ?_)
          | with_reducible refine seg_fin ?_
          | with_reducible refine seg_pan ?_
          | with_reducible refine seg_both ?_ ?_
          | with_reducible refine seg_case (fun x h => ?_) (fun h => ?_)
          | with_reducible refine seg_gate (fun h => ?_) (fun h => ?_)
          | with_reducible refine seg_need ?_ ?_
          | with_reducible refine wp_assoc ?_ | with_reducible refine wp_skipS ?_ | with_reducible refine wp_retS ?_ | with_reducible refine wp_exitS ?_ | with_reducible refine wp_dropS (wp_eqT (by simp -dsimp -implicitDefEqProofs [hd, hd2]; rfl) ?_) | with_reducible refine wp_sealS (by simp -dsimp -implicitDefEqProofs [hd, hd2]; rfl) ?_ | with_reducible refine wp_seal (by simp -dsimp -implicitDefEqProofs [hd, hd2]; rfl) ?_ | with_reducible refine wp_closeS (by simp -dsimp -implicitDefEqProofs [hd, hd2]; rfl) ?_ | with_reducible refine wp_close (by simp -dsimp -implicitDefEqProofs [hd, hd2]; rfl) ?_ | with_reducible refine wp_conc_out ?_ | with_reducible refine wp_open_out ?_ | with_reducible refine wp_pack_out ?_ | with_reducible refine wp_blockS ?_ | with_reducible refine wp_skip' ?_ | with_reducible refine wp_ret' ?_ | with_reducible refine wp_exit' ?_ | with_reducible refine wp_drop (wp_eqT (by simp -dsimp -implicitDefEqProofs [hd, hd2]; rfl) ?_) | with_reducible refine wp_block' ?_
          | with_reducible refine wp_condVS (by simp -dsimp -implicitDefEqProofs [hd, hd2]; rfl) ?_
          | with_reducible refine wp_condV (by simp -dsimp -implicitDefEqProofs [hd, hd2]; rfl) ?_
          | with_reducible refine cond_t ?_ | with_reducible refine cond_f ?_ | with_reducible refine cond_v (fun h => ?_) (fun h => ?_)
          | with_reducible refine post_then ?_ | with_reducible refine post_thenE ?_ | with_reducible refine post_thenP ?_ | with_reducible refine post_blkP ?_ | with_reducible refine post_thenR ?_ | with_reducible refine post_blkN ?_ | with_reducible refine post_blkE ?_ | with_reducible refine post_blkF rfl ?_ | with_reducible refine post_blkR ?_
          | with_reducible refine seg_eval (by simp -dsimp -implicitDefEqProofs [hd, hd2]; rfl) ?_
      all_goals first
        | omega
        | exact post_fin rfl rfl ⟨[], [], rfl, rfl, rfl, rfl⟩
        | trace_state
end Go.Proofs.Ytbponegjfccgfaa.Am
namespace Go.Proofs.Ytbponegjfccgfaa.Am
set_option linter.unusedSimpArgs false
set_option linter.unusedVariables false
open Go Go.Proofs
attribute [local irreducible] wpA
attribute [-simp] splice

noncomputable def spChosen : Spec := spc (X := Int × Nat × List Ct) (fun p => ([avBox p.1 p.2.1 p.2.2], [])) (fun p => p.2.1 < 65536 ∧ p.2.2.length ≤ 1000000 ∧ (∀ y ∈ p.2.2, okCt y))
  (fun p => (.ret (.tup [.agg [.v (.bool (chosenC p.1 p.2.1 p.2.2).1.1), .v (.int .u8 (chosenC p.1 p.2.1 p.2.2).1.2)], .v (.bool (chosenC p.1 p.2.1 p.2.2).2)]), []))
open Classical in
theorem chosenAt (v : Int) (m : Nat) (l : List Ct) : spChosen [.agg [.v (.int .i64 v), .v (.int .u16 (m : Nat)), .fsl 3 (l.map avCt)]] [] = if m < 65536 ∧ l.length ≤ 1000000 ∧ (∀ y ∈ l, okCt y) then
    some (.ret (.tup [.agg [.v (.bool (chosenC v m l).1.1), .v (.int .u8 (chosenC v m l).1.2)], .v (.bool (chosenC v m l).2)]), []) else none :=
  spc_at (f := fun p : Int × Nat × List Ct => ([avBox p.1 p.2.1 p.2.2], [])) (fun x y h => by
    simp only [Prod.mk.injEq, List.cons.injEq, and_true] at h
    obtain ⟨h1, h2, h3⟩ := avBox_inj h
    exact Prod.ext h1 (Prod.ext h2 h3)) (v, m, l)
theorem chosen_no {v : Int} {m : Nat} {l : List Ct} (h : boxB v m l = false) (c : Ct) : goodC v m l (echoesS (sizeS m)) c = false := by
  unfold goodC forC
  rw [h, if_neg (by simp)]
  have h1 := echoes_range ((sizeS m : Nat) : Int)
  have h2 : sizeS 0 = 0 := by decide
  rw [h2, decide_eq_false_iff_not]
  omega

set_option maxHeartbeats 8000000 in
theorem chosen_ok : CallOk Try.prog 29 spChosen := by
  refine ok_29 (Env.put_ok [] (Env.put_ok [] (Env.put_ok [] (Env.none_ok _) size_ok) echoes_ok) idx_ok) spChosen (wb_spc ?_)
  rintro ⟨v, m, l⟩ ⟨hm, hll, hok⟩
  simp only [avBox] at hm hll hok ⊢
  have hml : (m : Int) < 65536 := by omega
  unfold ac_29
  cases hfi : l.findIdx? (goodC v m l (echoesS (sizeS m))) with
  | none =>
    have h1 : ∀ (k : Nat) (x : Ct), l[k]? = some x → goodC v m l (echoesS (sizeS m)) x = false := fun k x hk => List.findIdx?_eq_none_iff.1 hfi x (List.mem_of_getElem? hk)
    obtain ⟨e1, e2⟩ := idx_none h1
    have hc : chosenC v m l = ((false, 0), false) := by unfold chosenC; rw [e2]
    rw [hc]
    repeat' first
        | with_reducible refine wp_regionS (seg_eval (by simp -dsimp -implicitDefEqProofs [hm, hml, hll, idxAt, e1, spSize, spEchoes]; rfl) ?_)
        | with_reducible refine wp_region (seg_eval (by simp -dsimp -implicitDefEqProofs [hm, hml, hll, idxAt, e1, spSize, spEchoes]; rfl) ?_)
        | with_reducible refine wp_drawsS (seg_eval (by simp -dsimp -implicitDefEqProofs [hm, hml, hll, idxAt, e1, spSize, spEchoes]; rfl) ?_)
        | with_reducible refine wp_draws (seg_eval (by simp -dsimp -implicitDefEqProofs [hm, hml, hll, idxAt, e1, spSize, spEchoes]; rfl) ?_)
        | with_reducible refine seg_fin ?_
        | with_reducible refine seg_pan ?_
        | with_reducible refine seg_both ?_ ?_
        | with_reducible refine seg_case (fun x h => ?_) (fun h => ?_)
        | with_reducible refine seg_gate (fun h => ?_) (fun h => ?_)
        | with_reducible refine seg_need ?_ ?_
        | with_reducible refine wp_assoc ?_ | with_reducible refine wp_skipS ?_ | with_reducible refine wp_retS ?_ | with_reducible refine wp_exitS ?_ | with_reducible refine wp_dropS (wp_eqT (by simp -dsimp -implicitDefEqProofs [hm, hml, hll, idxAt, e1, spSize, spEchoes]; rfl) ?_) | with_reducible refine wp_sealS (by simp -dsimp -implicitDefEqProofs [hm, hml, hll, idxAt, e1, spSize, spEchoes]; rfl) ?_ | with_reducible refine wp_seal (by simp -dsimp -implicitDefEqProofs [hm, hml, hll, idxAt, e1, spSize, spEchoes]; rfl) ?_ | with_reducible refine wp_closeS (by simp -dsimp -implicitDefEqProofs [hm, hml, hll, idxAt, e1, spSize, spEchoes]; rfl) ?_ | with_reducible refine wp_close (by simp -dsimp -implicitDefEqProofs [hm, hml, hll, idxAt, e1, spSize, spEchoes]; rfl) ?_ | with_reducible refine wp_conc_out ?_ | with_reducible refine wp_open_out ?_ | with_reducible refine wp_pack_out ?_ | with_reducible refine wp_blockS ?_ | with_reducible refine wp_skip' ?_ | with_reducible refine wp_ret' ?_ | with_reducible refine wp_exit' ?_ | with_reducible refine wp_drop (wp_eqT (by simp -dsimp -implicitDefEqProofs [hm, hml, hll, idxAt, e1, spSize, spEchoes]; rfl) ?_) | with_reducible refine wp_block' ?_
        | with_reducible refine wp_condVS (by simp -dsimp -implicitDefEqProofs [hm, hml, hll, idxAt, e1, spSize, spEchoes]; rfl) ?_
        | with_reducible refine wp_condV (by simp -dsimp -implicitDefEqProofs [hm, hml, hll, idxAt, e1, spSize, spEchoes]; rfl) ?_
        | with_reducible refine cond_t ?_ | with_reducible refine cond_f ?_ | with_reducible refine cond_v (fun h => ?_) (fun h => ?_)
        | with_reducible refine post_then ?_ | with_reducible refine post_thenE ?_ | with_reducible refine post_thenP ?_ | with_reducible refine post_blkP ?_ | with_reducible refine post_thenR ?_ | with_reducible refine post_blkN ?_ | with_reducible refine post_blkE ?_ | with_reducible refine post_blkF rfl ?_ | with_reducible refine post_blkR ?_
        | with_reducible refine seg_eval (by simp -dsimp -implicitDefEqProofs [hm, hml, hll, idxAt, e1, spSize, spEchoes]; rfl) ?_
    all_goals first
      | omega
      | exact hok
      | exact post_fin rfl rfl ⟨[], [], rfl, rfl, rfl, rfl⟩
      | trace_state
  | some i =>
    obtain ⟨hlt, hg, hb⟩ := List.findIdx?_eq_some_iff_getElem.1 hfi
    have hx : l[i]? = some l[i] := List.getElem?_eq_getElem hlt
    generalize l[i] = x at hx hg
    obtain ⟨e1, e2⟩ := idx_some hx (fun k y hk hy => by
      obtain ⟨hk2, rfl⟩ := List.getElem?_eq_some_iff.1 hy
      have := hb k hk
      simpa using this) hg
    have hc : chosenC v m l = ((x.add, x.id), true) := by unfold chosenC; rw [e2]
    rw [hc]
    obtain ⟨w, a, d⟩ := x
    have c0 : decide ((i : Int) < 0) = false := by rw [decide_eq_false_iff_not]; omega
    have hd : decide ((i : Int) < (l.length : Int)) = true := by rw [decide_eq_true_eq]; omega
    have hd2 : decide (i < l.length) = true := by simp [hlt]
    repeat' first
        | with_reducible refine wp_regionS (seg_eval (by simp -dsimp -implicitDefEqProofs [hm, hml, hll, idxAt, e1, spSize, spEchoes, hx, c0, hd, hd2, avCt, cCt]; rfl) ?_)
        | with_reducible refine wp_region (seg_eval (by simp -dsimp -implicitDefEqProofs [hm, hml, hll, idxAt, e1, spSize, spEchoes, hx, c0, hd, hd2, avCt, cCt]; rfl) ?_)
        | with_reducible refine wp_drawsS (seg_eval (by simp -dsimp -implicitDefEqProofs [hm, hml, hll, idxAt, e1, spSize, spEchoes, hx, c0, hd, hd2, avCt, cCt]; rfl) ?_)
        | with_reducible refine wp_draws (seg_eval (by simp -dsimp -implicitDefEqProofs [hm, hml, hll, idxAt, e1, spSize, spEchoes, hx, c0, hd, hd2, avCt, cCt]; rfl) ?_)
        | with_reducible refine seg_fin ?_
        | with_reducible refine seg_pan ?_
        | with_reducible refine seg_both ?_ ?_
        | with_reducible refine seg_case (fun x h => ?_) (fun h => ?_)
        | with_reducible refine seg_gate (fun h => ?_) (fun h => ?_)
        | with_reducible refine seg_need ?_ ?_
        | with_reducible refine wp_assoc ?_ | with_reducible refine wp_skipS ?_ | with_reducible refine wp_retS ?_ | with_reducible refine wp_exitS ?_ | with_reducible refine wp_dropS (wp_eqT (by simp -dsimp -implicitDefEqProofs [hm, hml, hll, idxAt, e1, spSize, spEchoes, hx, c0, hd, hd2, avCt, cCt]; rfl) ?_) | with_reducible refine wp_sealS (by simp -dsimp -implicitDefEqProofs [hm, hml, hll, idxAt, e1, spSize, spEchoes, hx, c0, hd, hd2, avCt, cCt]; rfl) ?_ | with_reducible refine wp_seal (by simp -dsimp -implicitDefEqProofs [hm, hml, hll, idxAt, e1, spSize, spEchoes, hx, c0, hd, hd2, avCt, cCt]; rfl) ?_ | with_reducible refine wp_closeS (by simp -dsimp -implicitDefEqProofs [hm, hml, hll, idxAt, e1, spSize, spEchoes, hx, c0, hd, hd2, avCt, cCt]; rfl) ?_ | with_reducible refine wp_close (by simp -dsimp -implicitDefEqProofs [hm, hml, hll, idxAt, e1, spSize, spEchoes, hx, c0, hd, hd2, avCt, cCt]; rfl) ?_ | with_reducible refine wp_conc_out ?_ | with_reducible refine wp_open_out ?_ | with_reducible refine wp_pack_out ?_ | with_reducible refine wp_blockS ?_ | with_reducible refine wp_skip' ?_ | with_reducible refine wp_ret' ?_ | with_reducible refine wp_exit' ?_ | with_reducible refine wp_drop (wp_eqT (by simp -dsimp -implicitDefEqProofs [hm, hml, hll, idxAt, e1, spSize, spEchoes, hx, c0, hd, hd2, avCt, cCt]; rfl) ?_) | with_reducible refine wp_block' ?_
        | with_reducible refine wp_condVS (by simp -dsimp -implicitDefEqProofs [hm, hml, hll, idxAt, e1, spSize, spEchoes, hx, c0, hd, hd2, avCt, cCt]; rfl) ?_
        | with_reducible refine wp_condV (by simp -dsimp -implicitDefEqProofs [hm, hml, hll, idxAt, e1, spSize, spEchoes, hx, c0, hd, hd2, avCt, cCt]; rfl) ?_
        | with_reducible refine cond_t ?_ | with_reducible refine cond_f ?_ | with_reducible refine cond_v (fun h => ?_) (fun h => ?_)
        | with_reducible refine post_then ?_ | with_reducible refine post_thenE ?_ | with_reducible refine post_thenP ?_ | with_reducible refine post_blkP ?_ | with_reducible refine post_thenR ?_ | with_reducible refine post_blkN ?_ | with_reducible refine post_blkE ?_ | with_reducible refine post_blkF rfl ?_ | with_reducible refine post_blkR ?_
        | with_reducible refine seg_eval (by simp -dsimp -implicitDefEqProofs [hm, hml, hll, idxAt, e1, spSize, spEchoes, hx, c0, hd, hd2, avCt, cCt]; rfl) ?_
    all_goals first
      | omega
      | exact hok
      | exact post_fin rfl rfl ⟨[], [], rfl, rfl, rfl, rfl⟩
      | trace_state
set_option maxHeartbeats 8000000 in
theorem chosenR_ok : CallOk Try.prog 30 spChosen := by
  refine ok_30 (Env.put_ok [] (Env.put_ok [] (Env.put_ok [] (Env.put_ok [] (Env.none_ok _) sizeR_ok) echoesR_ok) forCR_ok) boxRightR_ok) spChosen (wb_spc ?_)
  rintro ⟨v, m, l⟩ ⟨hm, hll, hok⟩
  simp only [avBox] at hm hll hok ⊢
  have hml : (m : Int) < 65536 := by omega
  have hll2 : l.length ≤ 100000000 := by omega
  have hse := size_le m
  unfold ac_30
  repeat' first
      | with_reducible refine wp_regionS (seg_eval (by simp -dsimp -implicitDefEqProofs [hm, hml, hll, spSize]; rfl) ?_)
      | with_reducible refine wp_region (seg_eval (by simp -dsimp -implicitDefEqProofs [hm, hml, hll, spSize]; rfl) ?_)
      | with_reducible refine wp_drawsS (seg_eval (by simp -dsimp -implicitDefEqProofs [hm, hml, hll, spSize]; rfl) ?_)
      | with_reducible refine wp_draws (seg_eval (by simp -dsimp -implicitDefEqProofs [hm, hml, hll, spSize]; rfl) ?_)
      | with_reducible refine seg_fin ?_
      | with_reducible refine seg_pan ?_
      | with_reducible refine seg_both ?_ ?_
      | with_reducible refine seg_case (fun x h => ?_) (fun h => ?_)
      | with_reducible refine seg_gate (fun h => ?_) (fun h => ?_)
      | with_reducible refine seg_need ?_ ?_
      | with_reducible refine wp_assoc ?_ | with_reducible refine wp_skipS ?_ | with_reducible refine wp_retS ?_ | with_reducible refine wp_exitS ?_ | with_reducible refine wp_dropS (wp_eqT (by simp -dsimp -implicitDefEqProofs [hm, hml, hll, spSize]; rfl) ?_) | with_reducible refine wp_sealS (by simp -dsimp -implicitDefEqProofs [hm, hml, hll, spSize]; rfl) ?_ | with_reducible refine wp_seal (by simp -dsimp -implicitDefEqProofs [hm, hml, hll, spSize]; rfl) ?_ | with_reducible refine wp_closeS (by simp -dsimp -implicitDefEqProofs [hm, hml, hll, spSize]; rfl) ?_ | with_reducible refine wp_close (by simp -dsimp -implicitDefEqProofs [hm, hml, hll, spSize]; rfl) ?_ | with_reducible refine wp_conc_out ?_ | with_reducible refine wp_open_out ?_ | with_reducible refine wp_pack_out ?_ | with_reducible refine wp_blockS ?_ | with_reducible refine wp_skip' ?_ | with_reducible refine wp_ret' ?_ | with_reducible refine wp_exit' ?_ | with_reducible refine wp_drop (wp_eqT (by simp -dsimp -implicitDefEqProofs [hm, hml, hll, spSize]; rfl) ?_) | with_reducible refine wp_block' ?_
      | with_reducible refine wp_condVS (by simp -dsimp -implicitDefEqProofs [hm, hml, hll, spSize]; rfl) ?_
      | with_reducible refine wp_condV (by simp -dsimp -implicitDefEqProofs [hm, hml, hll, spSize]; rfl) ?_
      | with_reducible refine cond_t ?_ | with_reducible refine cond_f ?_ | with_reducible refine cond_v (fun h => ?_) (fun h => ?_)
      | with_reducible refine post_then ?_ | with_reducible refine post_thenE ?_ | with_reducible refine post_thenP ?_ | with_reducible refine post_blkP ?_ | with_reducible refine post_thenR ?_ | with_reducible refine post_blkN ?_ | with_reducible refine post_blkE ?_ | with_reducible refine post_blkF rfl ?_ | with_reducible refine post_blkR ?_
      | with_reducible refine seg_eval (by simp -dsimp -implicitDefEqProofs [hm, hml, hll, spSize]; rfl) ?_
  refine wp_loop' (fun j ts mm => ∃ i : Nat, i + j = l.length ∧ (∀ (k : Nat) (x : Ct), k < i → l[k]? = some x → goodC v m l (echoesS (sizeS m)) x = false) ∧
    ts = [(1, .fptr (.agg [.v (.int .i64 v), .v (.int .u16 (m : Nat)), .fsl 3 (l.map avCt)]) 0), (2, .ptr 0 0 0), (4, .v (.int .i64 (sizeS m : Nat))), (5, .v (.int .i64 i))] ∧ mm = [.var [.v (.bool false), .v (.int .u8 0)]]) l.length ?_ ?_
  · exact ⟨[], [1], rfl, rfl, 0, by omega, fun k x hk => by omega, by simp, by simp⟩
  · rintro j ts mm ⟨i, hi, hlo, rfl, rfl⟩
    by_cases hlt : i < l.length
    · have hd : decide ((i : Int) < (l.length : Int)) = true := by rw [decide_eq_true_eq]; omega
      have hd2 : decide (i < l.length) = true := by simp [hlt]
      cases hr : boxB v m l
      · have hc : chosenC v m l = ((false, 0), false) := by unfold chosenC; rw [(idx_none fun k x _ => chosen_no hr x).2]
        rw [hc]
        repeat' first
            | with_reducible refine wp_regionS (seg_eval (by simp -dsimp -implicitDefEqProofs [hm, hml, hll, hll2, hr, hd, hd2, boxAt]; rfl) ?_)
            | with_reducible refine wp_region (seg_eval (by simp -dsimp -implicitDefEqProofs [hm, hml, hll, hll2, hr, hd, hd2, boxAt]; rfl) ?_)
            | with_reducible refine wp_drawsS (seg_eval (by simp -dsimp -implicitDefEqProofs [hm, hml, hll, hll2, hr, hd, hd2, boxAt]; rfl) ?_)
            | with_reducible refine wp_draws (seg_eval (by simp -dsimp -implicitDefEqProofs [hm, hml, hll, hll2, hr, hd, hd2, boxAt]; rfl) ?_)
            | with_reducible refine seg_fin ?_
            | with_reducible refine seg_pan ?_
            | with_reducible refine seg_both ?_ ?_
            | with_reducible refine seg_case (fun x h => ?_) (fun h => ?_)
            | with_reducible refine seg_gate (fun h => ?_) (fun h => ?_)
            | with_reducible refine seg_need ?_ ?_
            | with_reducible refine wp_assoc ?_ | with_reducible refine wp_skipS ?_ | with_reducible refine wp_retS ?_ | with_reducible refine wp_exitS ?_ | with_reducible refine wp_dropS (wp_eqT (by simp -dsimp -implicitDefEqProofs [hm, hml, hll, hll2, hr, hd, hd2, boxAt]; rfl) ?_) | with_reducible refine wp_sealS (by simp -dsimp -implicitDefEqProofs [hm, hml, hll, hll2, hr, hd, hd2, boxAt]; rfl) ?_ | with_reducible refine wp_seal (by simp -dsimp -implicitDefEqProofs [hm, hml, hll, hll2, hr, hd, hd2, boxAt]; rfl) ?_ | with_reducible refine wp_closeS (by simp -dsimp -implicitDefEqProofs [hm, hml, hll, hll2, hr, hd, hd2, boxAt]; rfl) ?_ | with_reducible refine wp_close (by simp -dsimp -implicitDefEqProofs [hm, hml, hll, hll2, hr, hd, hd2, boxAt]; rfl) ?_ | with_reducible refine wp_conc_out ?_ | with_reducible refine wp_open_out ?_ | with_reducible refine wp_pack_out ?_ | with_reducible refine wp_blockS ?_ | with_reducible refine wp_skip' ?_ | with_reducible refine wp_ret' ?_ | with_reducible refine wp_exit' ?_ | with_reducible refine wp_drop (wp_eqT (by simp -dsimp -implicitDefEqProofs [hm, hml, hll, hll2, hr, hd, hd2, boxAt]; rfl) ?_) | with_reducible refine wp_block' ?_
            | with_reducible refine wp_condVS (by simp -dsimp -implicitDefEqProofs [hm, hml, hll, hll2, hr, hd, hd2, boxAt]; rfl) ?_
            | with_reducible refine wp_condV (by simp -dsimp -implicitDefEqProofs [hm, hml, hll, hll2, hr, hd, hd2, boxAt]; rfl) ?_
            | with_reducible refine cond_t ?_ | with_reducible refine cond_f ?_ | with_reducible refine cond_v (fun h => ?_) (fun h => ?_)
            | with_reducible refine post_then ?_ | with_reducible refine post_thenE ?_ | with_reducible refine post_thenP ?_ | with_reducible refine post_blkP ?_ | with_reducible refine post_thenR ?_ | with_reducible refine post_blkN ?_ | with_reducible refine post_blkE ?_ | with_reducible refine post_blkF rfl ?_ | with_reducible refine post_blkR ?_
            | with_reducible refine seg_eval (by simp -dsimp -implicitDefEqProofs [hm, hml, hll, hll2, hr, hd, hd2, boxAt]; rfl) ?_
        all_goals first
          | omega
          | exact hok
          | exact post_fin rfl rfl ⟨[], [], rfl, rfl, rfl, rfl⟩
          | trace_state
      · obtain ⟨x, hx⟩ : ∃ x, l[i]? = some x := ⟨_, List.getElem?_eq_getElem (by omega)⟩
        have h64 : IntKind.wrap .i64 ((i : Int) + 1) = ((i + 1 : Nat) : Int) := by rw [IntWalk.i64_in _ (by omega)]; rfl
        have hfl := forC_lt v m l x.add x.id
        cases hg : goodC v m l (echoesS (sizeS m)) x
        · have hlo2 : ∀ (k : Nat) (y : Ct), k < i + 1 → l[k]? = some y → goodC v m l (echoesS (sizeS m)) y = false := fun k y hk hy => by
            by_cases hki : k = i
            · subst hki; rw [hx] at hy; cases hy; exact hg
            · exact hlo k y (by omega) hy
          obtain ⟨w, a, d⟩ := x
          simp only [goodC] at hg
          simp only at hfl
          repeat' first
              | with_reducible refine wp_regionS (seg_eval (by simp -dsimp -implicitDefEqProofs [avCt, cCt, hd, hd2, h64, hx, hm, hml, hll, hll2, hr, hg, hfl, boxAt, forCAt, spSize, spEchoes]; rfl) ?_)
              | with_reducible refine wp_region (seg_eval (by simp -dsimp -implicitDefEqProofs [avCt, cCt, hd, hd2, h64, hx, hm, hml, hll, hll2, hr, hg, hfl, boxAt, forCAt, spSize, spEchoes]; rfl) ?_)
              | with_reducible refine wp_drawsS (seg_eval (by simp -dsimp -implicitDefEqProofs [avCt, cCt, hd, hd2, h64, hx, hm, hml, hll, hll2, hr, hg, hfl, boxAt, forCAt, spSize, spEchoes]; rfl) ?_)
              | with_reducible refine wp_draws (seg_eval (by simp -dsimp -implicitDefEqProofs [avCt, cCt, hd, hd2, h64, hx, hm, hml, hll, hll2, hr, hg, hfl, boxAt, forCAt, spSize, spEchoes]; rfl) ?_)
              | with_reducible refine seg_fin ?_
              | with_reducible refine seg_pan ?_
              | with_reducible refine seg_both ?_ ?_
              | with_reducible refine seg_case (fun x h => ?_) (fun h => ?_)
              | with_reducible refine seg_gate (fun h => ?_) (fun h => ?_)
              | with_reducible refine seg_need ?_ ?_
              | with_reducible refine wp_assoc ?_ | with_reducible refine wp_skipS ?_ | with_reducible refine wp_retS ?_ | with_reducible refine wp_exitS ?_ | with_reducible refine wp_dropS (wp_eqT (by simp -dsimp -implicitDefEqProofs [avCt, cCt, hd, hd2, h64, hx, hm, hml, hll, hll2, hr, hg, hfl, boxAt, forCAt, spSize, spEchoes]; rfl) ?_) | with_reducible refine wp_sealS (by simp -dsimp -implicitDefEqProofs [avCt, cCt, hd, hd2, h64, hx, hm, hml, hll, hll2, hr, hg, hfl, boxAt, forCAt, spSize, spEchoes]; rfl) ?_ | with_reducible refine wp_seal (by simp -dsimp -implicitDefEqProofs [avCt, cCt, hd, hd2, h64, hx, hm, hml, hll, hll2, hr, hg, hfl, boxAt, forCAt, spSize, spEchoes]; rfl) ?_ | with_reducible refine wp_closeS (by simp -dsimp -implicitDefEqProofs [avCt, cCt, hd, hd2, h64, hx, hm, hml, hll, hll2, hr, hg, hfl, boxAt, forCAt, spSize, spEchoes]; rfl) ?_ | with_reducible refine wp_close (by simp -dsimp -implicitDefEqProofs [avCt, cCt, hd, hd2, h64, hx, hm, hml, hll, hll2, hr, hg, hfl, boxAt, forCAt, spSize, spEchoes]; rfl) ?_ | with_reducible refine wp_conc_out ?_ | with_reducible refine wp_open_out ?_ | with_reducible refine wp_pack_out ?_ | with_reducible refine wp_blockS ?_ | with_reducible refine wp_skip' ?_ | with_reducible refine wp_ret' ?_ | with_reducible refine wp_exit' ?_ | with_reducible refine wp_drop (wp_eqT (by simp -dsimp -implicitDefEqProofs [avCt, cCt, hd, hd2, h64, hx, hm, hml, hll, hll2, hr, hg, hfl, boxAt, forCAt, spSize, spEchoes]; rfl) ?_) | with_reducible refine wp_block' ?_
              | with_reducible refine wp_condVS (by simp -dsimp -implicitDefEqProofs [avCt, cCt, hd, hd2, h64, hx, hm, hml, hll, hll2, hr, hg, hfl, boxAt, forCAt, spSize, spEchoes]; rfl) ?_
              | with_reducible refine wp_condV (by simp -dsimp -implicitDefEqProofs [avCt, cCt, hd, hd2, h64, hx, hm, hml, hll, hll2, hr, hg, hfl, boxAt, forCAt, spSize, spEchoes]; rfl) ?_
              | with_reducible refine cond_t ?_ | with_reducible refine cond_f ?_ | with_reducible refine cond_v (fun h => ?_) (fun h => ?_)
              | with_reducible refine post_then ?_ | with_reducible refine post_thenE ?_ | with_reducible refine post_thenP ?_ | with_reducible refine post_blkP ?_ | with_reducible refine post_thenR ?_ | with_reducible refine post_blkN ?_ | with_reducible refine post_blkE ?_ | with_reducible refine post_blkF rfl ?_ | with_reducible refine post_blkR ?_
              | with_reducible refine seg_eval (by simp -dsimp -implicitDefEqProofs [avCt, cCt, hd, hd2, h64, hx, hm, hml, hll, hll2, hr, hg, hfl, boxAt, forCAt, spSize, spEchoes]; rfl) ?_
          all_goals first
            | omega
            | exact hok
            | exact ⟨j - 1, by omega, [], [0], rfl, rfl, i + 1, by omega, hlo2, by simp [avCt, cCt], by simp⟩
            | trace_state
        · have hc : chosenC v m l = ((x.add, x.id), true) := by unfold chosenC; rw [(idx_some hx hlo hg).2]
          rw [hc]
          obtain ⟨w, a, d⟩ := x
          simp only [goodC] at hg
          simp only at hfl
          repeat' first
              | with_reducible refine wp_regionS (seg_eval (by simp -dsimp -implicitDefEqProofs [avCt, cCt, hd, hd2, h64, hx, hm, hml, hll, hll2, hr, hg, hfl, boxAt, forCAt, spSize, spEchoes]; rfl) ?_)
              | with_reducible refine wp_region (seg_eval (by simp -dsimp -implicitDefEqProofs [avCt, cCt, hd, hd2, h64, hx, hm, hml, hll, hll2, hr, hg, hfl, boxAt, forCAt, spSize, spEchoes]; rfl) ?_)
              | with_reducible refine wp_drawsS (seg_eval (by simp -dsimp -implicitDefEqProofs [avCt, cCt, hd, hd2, h64, hx, hm, hml, hll, hll2, hr, hg, hfl, boxAt, forCAt, spSize, spEchoes]; rfl) ?_)
              | with_reducible refine wp_draws (seg_eval (by simp -dsimp -implicitDefEqProofs [avCt, cCt, hd, hd2, h64, hx, hm, hml, hll, hll2, hr, hg, hfl, boxAt, forCAt, spSize, spEchoes]; rfl) ?_)
              | with_reducible refine seg_fin ?_
              | with_reducible refine seg_pan ?_
              | with_reducible refine seg_both ?_ ?_
              | with_reducible refine seg_case (fun x h => ?_) (fun h => ?_)
              | with_reducible refine seg_gate (fun h => ?_) (fun h => ?_)
              | with_reducible refine seg_need ?_ ?_
              | with_reducible refine wp_assoc ?_ | with_reducible refine wp_skipS ?_ | with_reducible refine wp_retS ?_ | with_reducible refine wp_exitS ?_ | with_reducible refine wp_dropS (wp_eqT (by simp -dsimp -implicitDefEqProofs [avCt, cCt, hd, hd2, h64, hx, hm, hml, hll, hll2, hr, hg, hfl, boxAt, forCAt, spSize, spEchoes]; rfl) ?_) | with_reducible refine wp_sealS (by simp -dsimp -implicitDefEqProofs [avCt, cCt, hd, hd2, h64, hx, hm, hml, hll, hll2, hr, hg, hfl, boxAt, forCAt, spSize, spEchoes]; rfl) ?_ | with_reducible refine wp_seal (by simp -dsimp -implicitDefEqProofs [avCt, cCt, hd, hd2, h64, hx, hm, hml, hll, hll2, hr, hg, hfl, boxAt, forCAt, spSize, spEchoes]; rfl) ?_ | with_reducible refine wp_closeS (by simp -dsimp -implicitDefEqProofs [avCt, cCt, hd, hd2, h64, hx, hm, hml, hll, hll2, hr, hg, hfl, boxAt, forCAt, spSize, spEchoes]; rfl) ?_ | with_reducible refine wp_close (by simp -dsimp -implicitDefEqProofs [avCt, cCt, hd, hd2, h64, hx, hm, hml, hll, hll2, hr, hg, hfl, boxAt, forCAt, spSize, spEchoes]; rfl) ?_ | with_reducible refine wp_conc_out ?_ | with_reducible refine wp_open_out ?_ | with_reducible refine wp_pack_out ?_ | with_reducible refine wp_blockS ?_ | with_reducible refine wp_skip' ?_ | with_reducible refine wp_ret' ?_ | with_reducible refine wp_exit' ?_ | with_reducible refine wp_drop (wp_eqT (by simp -dsimp -implicitDefEqProofs [avCt, cCt, hd, hd2, h64, hx, hm, hml, hll, hll2, hr, hg, hfl, boxAt, forCAt, spSize, spEchoes]; rfl) ?_) | with_reducible refine wp_block' ?_
              | with_reducible refine wp_condVS (by simp -dsimp -implicitDefEqProofs [avCt, cCt, hd, hd2, h64, hx, hm, hml, hll, hll2, hr, hg, hfl, boxAt, forCAt, spSize, spEchoes]; rfl) ?_
              | with_reducible refine wp_condV (by simp -dsimp -implicitDefEqProofs [avCt, cCt, hd, hd2, h64, hx, hm, hml, hll, hll2, hr, hg, hfl, boxAt, forCAt, spSize, spEchoes]; rfl) ?_
              | with_reducible refine cond_t ?_ | with_reducible refine cond_f ?_ | with_reducible refine cond_v (fun h => ?_) (fun h => ?_)
              | with_reducible refine post_then ?_ | with_reducible refine post_thenE ?_ | with_reducible refine post_thenP ?_ | with_reducible refine post_blkP ?_ | with_reducible refine post_thenR ?_ | with_reducible refine post_blkN ?_ | with_reducible refine post_blkE ?_ | with_reducible refine post_blkF rfl ?_ | with_reducible refine post_blkR ?_
              | with_reducible refine seg_eval (by simp -dsimp -implicitDefEqProofs [avCt, cCt, hd, hd2, h64, hx, hm, hml, hll, hll2, hr, hg, hfl, boxAt, forCAt, spSize, spEchoes]; rfl) ?_
          all_goals first
            | omega
            | exact hok
            | exact post_fin rfl rfl ⟨[], [], rfl, rfl, rfl, rfl⟩
            | trace_state
    · have hd : decide ((i : Int) < (l.length : Int)) = false := by rw [decide_eq_false_iff_not]; omega
      have hd2 : decide (i < l.length) = false := by simp [hlt]
      have hc : chosenC v m l = ((false, 0), false) := by unfold chosenC; rw [(idx_none fun k x hk => hlo k x (by have := (List.getElem?_eq_some_iff.1 hk).1; omega) hk).2]
      rw [hc]
      repeat' first
          | with_reducible refine wp_regionS (seg_eval (by simp -dsimp -implicitDefEqProofs [hd, hd2]; rfl) ?_)
          | with_reducible refine wp_region (seg_eval (by simp -dsimp -implicitDefEqProofs [hd, hd2]; rfl) ?_)
          | with_reducible refine wp_drawsS (seg_eval (by simp -dsimp -implicitDefEqProofs [hd, hd2]; rfl) ?_)
          | with_reducible refine wp_draws (seg_eval (by simp -dsimp -implicitDefEqProofs [hd, hd2]; rfl) ?_)
          | with_reducible refine seg_fin ?_
          | with_reducible refine seg_pan ?_
          | with_reducible refine seg_both ?_ ?_
          | with_reducible refine seg_case (fun x h => ?_) (fun h => ?_)
          | with_reducible refine seg_gate (fun h => ?_) (fun h => ?_)
          | with_reducible refine seg_need ?_ ?_
          | with_reducible refine wp_assoc ?_ | with_reducible refine wp_skipS ?_ | with_reducible refine wp_retS ?_ | with_reducible refine wp_exitS ?_ | with_reducible refine wp_dropS (wp_eqT (by simp -dsimp -implicitDefEqProofs [hd, hd2]; rfl) ?_) | with_reducible refine wp_sealS (by simp -dsimp -implicitDefEqProofs [hd, hd2]; rfl) ?_ | with_reducible refine wp_seal (by simp -dsimp -implicitDefEqProofs [hd, hd2]; rfl) ?_ | with_reducible refine wp_closeS (by simp -dsimp -implicitDefEqProofs [hd, hd2]; rfl) ?_ | with_reducible refine wp_close (by simp -dsimp -implicitDefEqProofs [hd, hd2]; rfl) ?_ | with_reducible refine wp_conc_out ?_ | with_reducible refine wp_open_out ?_ | with_reducible refine wp_pack_out ?_ | with_reducible refine wp_blockS ?_ | with_reducible refine wp_skip' ?_ | with_reducible refine wp_ret' ?_ | with_reducible refine wp_exit' ?_ | with_reducible refine wp_drop (wp_eqT (by simp -dsimp -implicitDefEqProofs [hd, hd2]; rfl) ?_) | with_reducible refine wp_block' ?_
          | with_reducible refine wp_condVS (by simp -dsimp -implicitDefEqProofs [hd, hd2]; rfl) ?_
          | with_reducible refine wp_condV (by simp -dsimp -implicitDefEqProofs [hd, hd2]; rfl) ?_
          | with_reducible refine cond_t ?_ | with_reducible refine cond_f ?_ | with_reducible refine cond_v (fun h => ?_) (fun h => ?_)
          | with_reducible refine post_then ?_ | with_reducible refine post_thenE ?_ | with_reducible refine post_thenP ?_ | with_reducible refine post_blkP ?_ | with_reducible refine post_thenR ?_ | with_reducible refine post_blkN ?_ | with_reducible refine post_blkE ?_ | with_reducible refine post_blkF rfl ?_ | with_reducible refine post_blkR ?_
          | with_reducible refine seg_eval (by simp -dsimp -implicitDefEqProofs [hd, hd2]; rfl) ?_
      all_goals first
        | omega
        | exact post_fin rfl rfl ⟨[], [], rfl, rfl, rfl, rfl⟩
        | trace_state
end Go.Proofs.Ytbponegjfccgfaa.Am
