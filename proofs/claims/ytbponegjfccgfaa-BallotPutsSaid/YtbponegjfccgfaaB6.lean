/-
  WHO WANTS A CHANGE, on both sides.
-/
import Derived.Test.YtbponegjfccgfaaB5
namespace Go.Proofs.Ytbponegjfccgfaa.Am
set_option linter.unusedSimpArgs false
set_option linter.unusedVariables false
open Go Go.Proofs
attribute [local irreducible] wpA
attribute [-simp] splice

def forS (l : List Ct) (a : Bool) (d : Int) : Nat := l.foldl (fun s x => if x.add = a ∧ x.id = d then withS s x.who.toNat else s) 0
theorem forS_snoc (l : List Ct) (x : Ct) (a : Bool) (d : Int) : forS (l ++ [x]) a d = if x.add = a ∧ x.id = d then withS (forS l a d) x.who.toNat else forS l a d := by simp [forS]
theorem forS_lt' : ∀ (l : List Ct) (a : Bool) (d : Int) (z : Nat), z < 65536 → l.foldl (fun s x => if x.add = a ∧ x.id = d then withS s x.who.toNat else s) z < 65536
  | [], _, _, z, h => h
  | x :: l, a, d, z, h => by
    simp only [List.foldl_cons]
    refine forS_lt' l a d _ ?_
    split
    · exact withS_lt h _
    · exact h
theorem forS_lt (l : List Ct) (a : Bool) (d : Int) : forS l a d < 65536 := forS_lt' l a d 0 (by omega)
noncomputable def forC (v : Int) (m : Nat) (l : List Ct) (a : Bool) (d : Int) : Nat := if boxB v m l = true then forS l a d else 0
theorem forC_lt (v : Int) (m : Nat) (l : List Ct) (a : Bool) (d : Int) : forC v m l a d < 65536 := by
  unfold forC; split
  · exact forS_lt l a d
  · omega
theorem eqCells_bi (a b : Bool) (i j : Int) : eqCells [.b, .i] [.v (.bool a), .v (.int .u8 i)] [.v (.bool b), .v (.int .u8 j)] = some (a == b && i == j) := by simp [eqCells]
noncomputable def spForC : Spec := spc (X := Int × Nat × List Ct × Bool × Int) (fun p => ([avBox p.1 p.2.1 p.2.2.1, .agg [.v (.bool p.2.2.2.1), .v (.int .u8 p.2.2.2.2)]], []))
  (fun p => p.2.1 < 65536 ∧ p.2.2.1.length ≤ 1000000 ∧ (∀ y ∈ p.2.2.1, okCt y))
  (fun p => (.ret (.v (.int .u16 (forC p.1 p.2.1 p.2.2.1 p.2.2.2.1 p.2.2.2.2 : Nat))), []))
open Classical in
theorem forCAt (v : Int) (m : Nat) (l : List Ct) (a : Bool) (d : Int) : spForC [.agg [.v (.int .i64 v), .v (.int .u16 (m : Nat)), .fsl 3 (l.map avCt)], .agg [.v (.bool a), .v (.int .u8 d)]] [] =
    if m < 65536 ∧ l.length ≤ 1000000 ∧ (∀ y ∈ l, okCt y) then some (.ret (.v (.int .u16 (forC v m l a d : Nat))), []) else none :=
  spc_at (f := fun p : Int × Nat × List Ct × Bool × Int => ([avBox p.1 p.2.1 p.2.2.1, .agg [.v (.bool p.2.2.2.1), .v (.int .u8 p.2.2.2.2)]], [])) (fun x y h => by
    simp only [Prod.mk.injEq, List.cons.injEq, and_true, AV.agg.injEq, AV.v.injEq, Value.bool.injEq, Value.int.injEq, true_and] at h
    obtain ⟨h1, h2, h3⟩ := avBox_inj h.1
    exact Prod.ext h1 (Prod.ext h2 (Prod.ext h3 (Prod.ext h.2.1 h.2.2)))) (v, m, l, a, d)

set_option maxHeartbeats 8000000 in
theorem forC_ok : CallOk Try.prog 33 spForC := by
  refine ok_33 (Env.put_ok [] (Env.put_ok [] (Env.none_ok _) with_ok) boxRight_ok) spForC (wb_spc ?_)
  rintro ⟨v, m, l, a, d⟩ ⟨hm, hll, hok⟩
  simp only [avBox] at hm hll hok ⊢
  have hml : (m : Int) < 65536 := by omega
  have hll2 : l.length ≤ 100000000 := by omega
  unfold ac_33
  cases hr : boxB v m l
  · have hf : forC v m l a d = 0 := by simp [forC, hr]
    rw [hf]
    repeat' first
        | with_reducible refine wp_regionS (seg_eval (by simp -dsimp -implicitDefEqProofs [hm, hml, hr, hll2, boxAt]; rfl) ?_)
        | with_reducible refine wp_region (seg_eval (by simp -dsimp -implicitDefEqProofs [hm, hml, hr, hll2, boxAt]; rfl) ?_)
        | with_reducible refine wp_drawsS (seg_eval (by simp -dsimp -implicitDefEqProofs [hm, hml, hr, hll2, boxAt]; rfl) ?_)
        | with_reducible refine wp_draws (seg_eval (by simp -dsimp -implicitDefEqProofs [hm, hml, hr, hll2, boxAt]; rfl) ?_)
        | with_reducible refine seg_fin ?_
        | with_reducible refine seg_pan ?_
        | with_reducible refine seg_both ?_ ?_
        | with_reducible refine seg_case (fun x h => ?_) (fun h => ?_)
        | with_reducible refine seg_gate (fun h => ?_) (fun h => ?_)
        | with_reducible refine seg_need ?_ ?_
        | with_reducible refine wp_assoc ?_ | with_reducible refine wp_skipS ?_ | with_reducible refine wp_retS ?_ | with_reducible refine wp_exitS ?_ | with_reducible refine wp_dropS (wp_eqT (by simp -dsimp -implicitDefEqProofs [hm, hml, hr, hll2, boxAt]; rfl) ?_) | with_reducible refine wp_sealS (by simp -dsimp -implicitDefEqProofs [hm, hml, hr, hll2, boxAt]; rfl) ?_ | with_reducible refine wp_seal (by simp -dsimp -implicitDefEqProofs [hm, hml, hr, hll2, boxAt]; rfl) ?_ | with_reducible refine wp_closeS (by simp -dsimp -implicitDefEqProofs [hm, hml, hr, hll2, boxAt]; rfl) ?_ | with_reducible refine wp_close (by simp -dsimp -implicitDefEqProofs [hm, hml, hr, hll2, boxAt]; rfl) ?_ | with_reducible refine wp_conc_out ?_ | with_reducible refine wp_open_out ?_ | with_reducible refine wp_pack_out ?_ | with_reducible refine wp_blockS ?_ | with_reducible refine wp_skip' ?_ | with_reducible refine wp_ret' ?_ | with_reducible refine wp_exit' ?_ | with_reducible refine wp_drop (wp_eqT (by simp -dsimp -implicitDefEqProofs [hm, hml, hr, hll2, boxAt]; rfl) ?_) | with_reducible refine wp_block' ?_
        | with_reducible refine wp_condVS (by simp -dsimp -implicitDefEqProofs [hm, hml, hr, hll2, boxAt]; rfl) ?_
        | with_reducible refine wp_condV (by simp -dsimp -implicitDefEqProofs [hm, hml, hr, hll2, boxAt]; rfl) ?_
        | with_reducible refine cond_t ?_ | with_reducible refine cond_f ?_ | with_reducible refine cond_v (fun h => ?_) (fun h => ?_)
        | with_reducible refine post_then ?_ | with_reducible refine post_thenE ?_ | with_reducible refine post_thenP ?_ | with_reducible refine post_blkP ?_ | with_reducible refine post_thenR ?_ | with_reducible refine post_blkN ?_ | with_reducible refine post_blkE ?_ | with_reducible refine post_blkF rfl ?_ | with_reducible refine post_blkR ?_
        | with_reducible refine seg_eval (by simp -dsimp -implicitDefEqProofs [hm, hml, hr, hll2, boxAt]; rfl) ?_
    all_goals first
      | omega
      | exact hok
      | exact post_fin rfl rfl ⟨[], [], rfl, rfl, rfl, rfl⟩
      | trace_state
  · have hf : forC v m l a d = forS l a d := by simp [forC, hr]
    rw [hf]
    repeat' first
        | with_reducible refine wp_regionS (seg_eval (by simp -dsimp -implicitDefEqProofs [hm, hml, hr, hll2, boxAt]; rfl) ?_)
        | with_reducible refine wp_region (seg_eval (by simp -dsimp -implicitDefEqProofs [hm, hml, hr, hll2, boxAt]; rfl) ?_)
        | with_reducible refine wp_drawsS (seg_eval (by simp -dsimp -implicitDefEqProofs [hm, hml, hr, hll2, boxAt]; rfl) ?_)
        | with_reducible refine wp_draws (seg_eval (by simp -dsimp -implicitDefEqProofs [hm, hml, hr, hll2, boxAt]; rfl) ?_)
        | with_reducible refine seg_fin ?_
        | with_reducible refine seg_pan ?_
        | with_reducible refine seg_both ?_ ?_
        | with_reducible refine seg_case (fun x h => ?_) (fun h => ?_)
        | with_reducible refine seg_gate (fun h => ?_) (fun h => ?_)
        | with_reducible refine seg_need ?_ ?_
        | with_reducible refine wp_assoc ?_ | with_reducible refine wp_skipS ?_ | with_reducible refine wp_retS ?_ | with_reducible refine wp_exitS ?_ | with_reducible refine wp_dropS (wp_eqT (by simp -dsimp -implicitDefEqProofs [hm, hml, hr, hll2, boxAt]; rfl) ?_) | with_reducible refine wp_sealS (by simp -dsimp -implicitDefEqProofs [hm, hml, hr, hll2, boxAt]; rfl) ?_ | with_reducible refine wp_seal (by simp -dsimp -implicitDefEqProofs [hm, hml, hr, hll2, boxAt]; rfl) ?_ | with_reducible refine wp_closeS (by simp -dsimp -implicitDefEqProofs [hm, hml, hr, hll2, boxAt]; rfl) ?_ | with_reducible refine wp_close (by simp -dsimp -implicitDefEqProofs [hm, hml, hr, hll2, boxAt]; rfl) ?_ | with_reducible refine wp_conc_out ?_ | with_reducible refine wp_open_out ?_ | with_reducible refine wp_pack_out ?_ | with_reducible refine wp_blockS ?_ | with_reducible refine wp_skip' ?_ | with_reducible refine wp_ret' ?_ | with_reducible refine wp_exit' ?_ | with_reducible refine wp_drop (wp_eqT (by simp -dsimp -implicitDefEqProofs [hm, hml, hr, hll2, boxAt]; rfl) ?_) | with_reducible refine wp_block' ?_
        | with_reducible refine wp_condVS (by simp -dsimp -implicitDefEqProofs [hm, hml, hr, hll2, boxAt]; rfl) ?_
        | with_reducible refine wp_condV (by simp -dsimp -implicitDefEqProofs [hm, hml, hr, hll2, boxAt]; rfl) ?_
        | with_reducible refine cond_t ?_ | with_reducible refine cond_f ?_ | with_reducible refine cond_v (fun h => ?_) (fun h => ?_)
        | with_reducible refine post_then ?_ | with_reducible refine post_thenE ?_ | with_reducible refine post_thenP ?_ | with_reducible refine post_blkP ?_ | with_reducible refine post_thenR ?_ | with_reducible refine post_blkN ?_ | with_reducible refine post_blkE ?_ | with_reducible refine post_blkF rfl ?_ | with_reducible refine post_blkR ?_
        | with_reducible refine seg_eval (by simp -dsimp -implicitDefEqProofs [hm, hml, hr, hll2, boxAt]; rfl) ?_
    all_goals first
      | exact hok
      | skip
    refine wp_loop' (fun j ts mm => ∃ i : Nat, i + j = l.length ∧ ts = [(3, .fptr (.agg [.v (.bool a), .v (.int .u8 d)]) 0), (5, .v (.int .u16 (forS (l.take i) a d : Nat))), (12, .fsl 3 (l.map avCt)), (13, .v (.int .i64 l.length)), (14, .v (.int .i64 i))] ∧ mm = []) l.length ?_ ?_
    · exact ⟨[], [], by simp, by simp, 0, by omega, by simp [forS], by simp⟩
    · rintro j ts mm ⟨i, hi, rfl, rfl⟩
      by_cases hlt : i < l.length
      · obtain ⟨x, hx⟩ : ∃ x, l[i]? = some x := ⟨_, List.getElem?_eq_getElem (by omega)⟩
        have hxo := hok x (List.mem_of_getElem? hx)
        have hd : decide ((i : Int) < (l.length : Int)) = true := by rw [decide_eq_true_eq]; omega
        have hd2 : decide (i < l.length) = true := by simp [hlt]
        have h64 : IntKind.wrap .i64 ((i : Int) + 1) = ((i + 1 : Nat) : Int) := by rw [IntWalk.i64_in _ (by omega)]; rfl
        have hsl := forS_lt (l.take i) a d
        have hst : forS (l.take (i + 1)) a d = if x.add = a ∧ x.id = d then withS (forS (l.take i) a d) x.who.toNat else forS (l.take i) a d := by rw [take_more hx, forS_snoc]
        obtain ⟨w, b, k⟩ := x
        obtain ⟨hw0, hw1, hd0, hd1⟩ := hxo
        simp only at hw0 hw1 hd0 hd1 hst
        cases he : (b == a && k == d)
        · have hne : ¬ (b = a ∧ k = d) := by simpa using he
          rw [if_neg hne] at hst
          repeat' first
              | with_reducible refine wp_regionS (seg_eval (by simp -dsimp -implicitDefEqProofs [avCt, cCt, hd, hd2, h64, hx, hw0, hw1, hd0, hd1, hsl, he, eqCells_bi, spWith]; rfl) ?_)
              | with_reducible refine wp_region (seg_eval (by simp -dsimp -implicitDefEqProofs [avCt, cCt, hd, hd2, h64, hx, hw0, hw1, hd0, hd1, hsl, he, eqCells_bi, spWith]; rfl) ?_)
              | with_reducible refine wp_drawsS (seg_eval (by simp -dsimp -implicitDefEqProofs [avCt, cCt, hd, hd2, h64, hx, hw0, hw1, hd0, hd1, hsl, he, eqCells_bi, spWith]; rfl) ?_)
              | with_reducible refine wp_draws (seg_eval (by simp -dsimp -implicitDefEqProofs [avCt, cCt, hd, hd2, h64, hx, hw0, hw1, hd0, hd1, hsl, he, eqCells_bi, spWith]; rfl) ?_)
              | with_reducible refine seg_fin ?_
              | with_reducible refine seg_pan ?_
              | with_reducible refine seg_both ?_ ?_
              | with_reducible refine seg_case (fun x h => ?_) (fun h => ?_)
              | with_reducible refine seg_gate (fun h => ?_) (fun h => ?_)
              | with_reducible refine seg_need ?_ ?_
              | with_reducible refine wp_assoc ?_ | with_reducible refine wp_skipS ?_ | with_reducible refine wp_retS ?_ | with_reducible refine wp_exitS ?_ | with_reducible refine wp_dropS (wp_eqT (by simp -dsimp -implicitDefEqProofs [avCt, cCt, hd, hd2, h64, hx, hw0, hw1, hd0, hd1, hsl, he, eqCells_bi, spWith]; rfl) ?_) | with_reducible refine wp_sealS (by simp -dsimp -implicitDefEqProofs [avCt, cCt, hd, hd2, h64, hx, hw0, hw1, hd0, hd1, hsl, he, eqCells_bi, spWith]; rfl) ?_ | with_reducible refine wp_seal (by simp -dsimp -implicitDefEqProofs [avCt, cCt, hd, hd2, h64, hx, hw0, hw1, hd0, hd1, hsl, he, eqCells_bi, spWith]; rfl) ?_ | with_reducible refine wp_closeS (by simp -dsimp -implicitDefEqProofs [avCt, cCt, hd, hd2, h64, hx, hw0, hw1, hd0, hd1, hsl, he, eqCells_bi, spWith]; rfl) ?_ | with_reducible refine wp_close (by simp -dsimp -implicitDefEqProofs [avCt, cCt, hd, hd2, h64, hx, hw0, hw1, hd0, hd1, hsl, he, eqCells_bi, spWith]; rfl) ?_ | with_reducible refine wp_conc_out ?_ | with_reducible refine wp_open_out ?_ | with_reducible refine wp_pack_out ?_ | with_reducible refine wp_blockS ?_ | with_reducible refine wp_skip' ?_ | with_reducible refine wp_ret' ?_ | with_reducible refine wp_exit' ?_ | with_reducible refine wp_drop (wp_eqT (by simp -dsimp -implicitDefEqProofs [avCt, cCt, hd, hd2, h64, hx, hw0, hw1, hd0, hd1, hsl, he, eqCells_bi, spWith]; rfl) ?_) | with_reducible refine wp_block' ?_
              | with_reducible refine wp_condVS (by simp -dsimp -implicitDefEqProofs [avCt, cCt, hd, hd2, h64, hx, hw0, hw1, hd0, hd1, hsl, he, eqCells_bi, spWith]; rfl) ?_
              | with_reducible refine wp_condV (by simp -dsimp -implicitDefEqProofs [avCt, cCt, hd, hd2, h64, hx, hw0, hw1, hd0, hd1, hsl, he, eqCells_bi, spWith]; rfl) ?_
              | with_reducible refine cond_t ?_ | with_reducible refine cond_f ?_ | with_reducible refine cond_v (fun h => ?_) (fun h => ?_)
              | with_reducible refine post_then ?_ | with_reducible refine post_thenE ?_ | with_reducible refine post_thenP ?_ | with_reducible refine post_blkP ?_ | with_reducible refine post_thenR ?_ | with_reducible refine post_blkN ?_ | with_reducible refine post_blkE ?_ | with_reducible refine post_blkF rfl ?_ | with_reducible refine post_blkR ?_
              | with_reducible refine seg_eval (by simp -dsimp -implicitDefEqProofs [avCt, cCt, hd, hd2, h64, hx, hw0, hw1, hd0, hd1, hsl, he, eqCells_bi, spWith]; rfl) ?_
          all_goals first
            | omega
            | exact ⟨j - 1, by omega, [], [], by simp, by simp, i + 1, by omega, by simp [hst, avCt, cCt], by simp⟩
            | trace_state
        · have hne : b = a ∧ k = d := by simpa using he
          rw [if_pos hne] at hst
          repeat' first
              | with_reducible refine wp_regionS (seg_eval (by simp -dsimp -implicitDefEqProofs [avCt, cCt, hd, hd2, h64, hx, hw0, hw1, hd0, hd1, hsl, he, eqCells_bi, spWith]; rfl) ?_)
              | with_reducible refine wp_region (seg_eval (by simp -dsimp -implicitDefEqProofs [avCt, cCt, hd, hd2, h64, hx, hw0, hw1, hd0, hd1, hsl, he, eqCells_bi, spWith]; rfl) ?_)
              | with_reducible refine wp_drawsS (seg_eval (by simp -dsimp -implicitDefEqProofs [avCt, cCt, hd, hd2, h64, hx, hw0, hw1, hd0, hd1, hsl, he, eqCells_bi, spWith]; rfl) ?_)
              | with_reducible refine wp_draws (seg_eval (by simp -dsimp -implicitDefEqProofs [avCt, cCt, hd, hd2, h64, hx, hw0, hw1, hd0, hd1, hsl, he, eqCells_bi, spWith]; rfl) ?_)
              | with_reducible refine seg_fin ?_
              | with_reducible refine seg_pan ?_
              | with_reducible refine seg_both ?_ ?_
              | with_reducible refine seg_case (fun x h => ?_) (fun h => ?_)
              | with_reducible refine seg_gate (fun h => ?_) (fun h => ?_)
              | with_reducible refine seg_need ?_ ?_
              | with_reducible refine wp_assoc ?_ | with_reducible refine wp_skipS ?_ | with_reducible refine wp_retS ?_ | with_reducible refine wp_exitS ?_ | with_reducible refine wp_dropS (wp_eqT (by simp -dsimp -implicitDefEqProofs [avCt, cCt, hd, hd2, h64, hx, hw0, hw1, hd0, hd1, hsl, he, eqCells_bi, spWith]; rfl) ?_) | with_reducible refine wp_sealS (by simp -dsimp -implicitDefEqProofs [avCt, cCt, hd, hd2, h64, hx, hw0, hw1, hd0, hd1, hsl, he, eqCells_bi, spWith]; rfl) ?_ | with_reducible refine wp_seal (by simp -dsimp -implicitDefEqProofs [avCt, cCt, hd, hd2, h64, hx, hw0, hw1, hd0, hd1, hsl, he, eqCells_bi, spWith]; rfl) ?_ | with_reducible refine wp_closeS (by simp -dsimp -implicitDefEqProofs [avCt, cCt, hd, hd2, h64, hx, hw0, hw1, hd0, hd1, hsl, he, eqCells_bi, spWith]; rfl) ?_ | with_reducible refine wp_close (by simp -dsimp -implicitDefEqProofs [avCt, cCt, hd, hd2, h64, hx, hw0, hw1, hd0, hd1, hsl, he, eqCells_bi, spWith]; rfl) ?_ | with_reducible refine wp_conc_out ?_ | with_reducible refine wp_open_out ?_ | with_reducible refine wp_pack_out ?_ | with_reducible refine wp_blockS ?_ | with_reducible refine wp_skip' ?_ | with_reducible refine wp_ret' ?_ | with_reducible refine wp_exit' ?_ | with_reducible refine wp_drop (wp_eqT (by simp -dsimp -implicitDefEqProofs [avCt, cCt, hd, hd2, h64, hx, hw0, hw1, hd0, hd1, hsl, he, eqCells_bi, spWith]; rfl) ?_) | with_reducible refine wp_block' ?_
              | with_reducible refine wp_condVS (by simp -dsimp -implicitDefEqProofs [avCt, cCt, hd, hd2, h64, hx, hw0, hw1, hd0, hd1, hsl, he, eqCells_bi, spWith]; rfl) ?_
              | with_reducible refine wp_condV (by simp -dsimp -implicitDefEqProofs [avCt, cCt, hd, hd2, h64, hx, hw0, hw1, hd0, hd1, hsl, he, eqCells_bi, spWith]; rfl) ?_
              | with_reducible refine cond_t ?_ | with_reducible refine cond_f ?_ | with_reducible refine cond_v (fun h => ?_) (fun h => ?_)
              | with_reducible refine post_then ?_ | with_reducible refine post_thenE ?_ | with_reducible refine post_thenP ?_ | with_reducible refine post_blkP ?_ | with_reducible refine post_thenR ?_ | with_reducible refine post_blkN ?_ | with_reducible refine post_blkE ?_ | with_reducible refine post_blkF rfl ?_ | with_reducible refine post_blkR ?_
              | with_reducible refine seg_eval (by simp -dsimp -implicitDefEqProofs [avCt, cCt, hd, hd2, h64, hx, hw0, hw1, hd0, hd1, hsl, he, eqCells_bi, spWith]; rfl) ?_
          all_goals first
            | omega
            | exact ⟨j - 1, by omega, [], [], by simp, by simp, i + 1, by omega, by simp [hst, avCt, cCt], by simp⟩
            | trace_state
      · have hd : decide ((i : Int) < (l.length : Int)) = false := by rw [decide_eq_false_iff_not]; omega
        have hd2 : decide (i < l.length) = false := by simp [hlt]
        rw [List.take_of_length_le (by omega)]
        repeat' first
            | with_reducible refine wp_regionS (seg_eval (by simp -dsimp -implicitDefEqProofs [hd, hd2]; rfl) ?_)
            | with_reducible refine wp_region (seg_eval (by simp -dsimp -implicitDefEqProofs [hd, hd2]; rfl) ?_)
            | with_reducible refine wp_drawsS (seg_eval (by simp -dsimp -implicitDefEqProofs [hd, hd2]; rfl) ?_)
            | with_reducible refine wp_draws (seg_eval (by simp -dsimp -implicitDefEqProofs [hd, hd2]; rfl) ?_)
            | with_reducible refine seg_fin ?_
            | with_reducible refine seg_pan ?_
            | with_reducible refine seg_both ?_ ?_
            | with_reducible refine seg_case (fun x h => ?_) (fun h => ?_)
            | with_reducible refine seg_gate (fun h => ?_) (fun h => ?_)
            | with_reducible refine seg_need ?_ ?_
            | with_reducible refine wp_assoc ?_ | with_reducible refine wp_skipS ?_ | with_reducible refine wp_retS ?_ | with_reducible refine wp_exitS ?_ | with_reducible refine wp_dropS (wp_eqT (by simp -dsimp -implicitDefEqProofs [hd, hd2]; rfl) ?_) | with_reducible refine wp_sealS (by simp -dsimp -implicitDefEqProofs [hd, hd2]; rfl) ?_ | with_reducible refine wp_seal (by simp -dsimp -implicitDefEqProofs [hd, hd2]; rfl) ?_ | with_reducible refine wp_closeS (by simp -dsimp -implicitDefEqProofs [hd, hd2]; rfl) ?_ | with_reducible refine wp_close (by simp -dsimp -implicitDefEqProofs [hd, hd2]; rfl) ?_ | with_reducible refine wp_conc_out ?_ | with_reducible refine wp_open_out ?_ | with_reducible refine wp_pack_out ?_ | with_reducible refine wp_blockS ?_ | with_reducible refine wp_skip' ?_ | with_reducible refine wp_ret' ?_ | with_reducible refine wp_exit' ?_ | with_reducible refine wp_drop (wp_eqT (by simp -dsimp -implicitDefEqProofs [hd, hd2]; rfl) ?_) | with_reducible refine wp_block' ?_
            | with_reducible refine wp_condVS (by simp -dsimp -implicitDefEqProofs [hd, hd2]; rfl) ?_
            | with_reducible refine wp_condV (by simp -dsimp -implicitDefEqProofs [hd, hd2]; rfl) ?_
            | with_reducible refine cond_t ?_ | with_reducible refine cond_f ?_ | with_reducible refine cond_v (fun h => ?_) (fun h => ?_)
            | with_reducible refine post_then ?_ | with_reducible refine post_thenE ?_ | with_reducible refine post_thenP ?_ | with_reducible refine post_blkP ?_ | with_reducible refine post_thenR ?_ | with_reducible refine post_blkN ?_ | with_reducible refine post_blkE ?_ | with_reducible refine post_blkF rfl ?_ | with_reducible refine post_blkR ?_
            | with_reducible refine seg_eval (by simp -dsimp -implicitDefEqProofs [hd, hd2]; rfl) ?_
        all_goals first
          | omega
          | exact post_fin rfl rfl ⟨[], [], rfl, rfl, rfl, rfl⟩
          | trace_state

set_option maxHeartbeats 8000000 in
theorem forCR_ok : CallOk Try.prog 34 spForC := by
  refine ok_34 (Env.put_ok [] (Env.put_ok [] (Env.none_ok _) withR_ok) boxRightR_ok) spForC (wb_spc ?_)
  rintro ⟨v, m, l, a, d⟩ ⟨hm, hll, hok⟩
  simp only [avBox] at hm hll hok ⊢
  have hml : (m : Int) < 65536 := by omega
  have hll2 : l.length ≤ 100000000 := by omega
  unfold ac_34
  cases hr : boxB v m l
  · have hf : forC v m l a d = 0 := by simp [forC, hr]
    rw [hf]
    repeat' first
        | with_reducible refine wp_regionS (seg_eval (by simp -dsimp -implicitDefEqProofs [hm, hml, hr, hll2, boxAt]; rfl) ?_)
        | with_reducible refine wp_region (seg_eval (by simp -dsimp -implicitDefEqProofs [hm, hml, hr, hll2, boxAt]; rfl) ?_)
        | with_reducible refine wp_drawsS (seg_eval (by simp -dsimp -implicitDefEqProofs [hm, hml, hr, hll2, boxAt]; rfl) ?_)
        | with_reducible refine wp_draws (seg_eval (by simp -dsimp -implicitDefEqProofs [hm, hml, hr, hll2, boxAt]; rfl) ?_)
        | with_reducible refine seg_fin ?_
        | with_reducible refine seg_pan ?_
        | with_reducible refine seg_both ?_ ?_
        | with_reducible refine seg_case (fun x h => ?_) (fun h => ?_)
        | with_reducible refine seg_gate (fun h => ?_) (fun h => ?_)
        | with_reducible refine seg_need ?_ ?_
        | with_reducible refine wp_assoc ?_ | with_reducible refine wp_skipS ?_ | with_reducible refine wp_retS ?_ | with_reducible refine wp_exitS ?_ | with_reducible refine wp_dropS (wp_eqT (by simp -dsimp -implicitDefEqProofs [hm, hml, hr, hll2, boxAt]; rfl) ?_) | with_reducible refine wp_sealS (by simp -dsimp -implicitDefEqProofs [hm, hml, hr, hll2, boxAt]; rfl) ?_ | with_reducible refine wp_seal (by simp -dsimp -implicitDefEqProofs [hm, hml, hr, hll2, boxAt]; rfl) ?_ | with_reducible refine wp_closeS (by simp -dsimp -implicitDefEqProofs [hm, hml, hr, hll2, boxAt]; rfl) ?_ | with_reducible refine wp_close (by simp -dsimp -implicitDefEqProofs [hm, hml, hr, hll2, boxAt]; rfl) ?_ | with_reducible refine wp_conc_out ?_ | with_reducible refine wp_open_out ?_ | with_reducible refine wp_pack_out ?_ | with_reducible refine wp_blockS ?_ | with_reducible refine wp_skip' ?_ | with_reducible refine wp_ret' ?_ | with_reducible refine wp_exit' ?_ | with_reducible refine wp_drop (wp_eqT (by simp -dsimp -implicitDefEqProofs [hm, hml, hr, hll2, boxAt]; rfl) ?_) | with_reducible refine wp_block' ?_
        | with_reducible refine wp_condVS (by simp -dsimp -implicitDefEqProofs [hm, hml, hr, hll2, boxAt]; rfl) ?_
        | with_reducible refine wp_condV (by simp -dsimp -implicitDefEqProofs [hm, hml, hr, hll2, boxAt]; rfl) ?_
        | with_reducible refine cond_t ?_ | with_reducible refine cond_f ?_ | with_reducible refine cond_v (fun h => ?_) (fun h => ?_)
        | with_reducible refine post_then ?_ | with_reducible refine post_thenE ?_ | with_reducible refine post_thenP ?_ | with_reducible refine post_blkP ?_ | with_reducible refine post_thenR ?_ | with_reducible refine post_blkN ?_ | with_reducible refine post_blkE ?_ | with_reducible refine post_blkF rfl ?_ | with_reducible refine post_blkR ?_
        | with_reducible refine seg_eval (by simp -dsimp -implicitDefEqProofs [hm, hml, hr, hll2, boxAt]; rfl) ?_
    all_goals first
      | omega
      | exact hok
      | exact post_fin rfl rfl ⟨[], [], rfl, rfl, rfl, rfl⟩
      | trace_state
  · have hf : forC v m l a d = forS l a d := by simp [forC, hr]
    rw [hf]
    repeat' first
        | with_reducible refine wp_regionS (seg_eval (by simp -dsimp -implicitDefEqProofs [hm, hml, hr, hll2, boxAt]; rfl) ?_)
        | with_reducible refine wp_region (seg_eval (by simp -dsimp -implicitDefEqProofs [hm, hml, hr, hll2, boxAt]; rfl) ?_)
        | with_reducible refine wp_drawsS (seg_eval (by simp -dsimp -implicitDefEqProofs [hm, hml, hr, hll2, boxAt]; rfl) ?_)
        | with_reducible refine wp_draws (seg_eval (by simp -dsimp -implicitDefEqProofs [hm, hml, hr, hll2, boxAt]; rfl) ?_)
        | with_reducible refine seg_fin ?_
        | with_reducible refine seg_pan ?_
        | with_reducible refine seg_both ?_ ?_
        | with_reducible refine seg_case (fun x h => ?_) (fun h => ?_)
        | with_reducible refine seg_gate (fun h => ?_) (fun h => ?_)
        | with_reducible refine seg_need ?_ ?_
        | with_reducible refine wp_assoc ?_ | with_reducible refine wp_skipS ?_ | with_reducible refine wp_retS ?_ | with_reducible refine wp_exitS ?_ | with_reducible refine wp_dropS (wp_eqT (by simp -dsimp -implicitDefEqProofs [hm, hml, hr, hll2, boxAt]; rfl) ?_) | with_reducible refine wp_sealS (by simp -dsimp -implicitDefEqProofs [hm, hml, hr, hll2, boxAt]; rfl) ?_ | with_reducible refine wp_seal (by simp -dsimp -implicitDefEqProofs [hm, hml, hr, hll2, boxAt]; rfl) ?_ | with_reducible refine wp_closeS (by simp -dsimp -implicitDefEqProofs [hm, hml, hr, hll2, boxAt]; rfl) ?_ | with_reducible refine wp_close (by simp -dsimp -implicitDefEqProofs [hm, hml, hr, hll2, boxAt]; rfl) ?_ | with_reducible refine wp_conc_out ?_ | with_reducible refine wp_open_out ?_ | with_reducible refine wp_pack_out ?_ | with_reducible refine wp_blockS ?_ | with_reducible refine wp_skip' ?_ | with_reducible refine wp_ret' ?_ | with_reducible refine wp_exit' ?_ | with_reducible refine wp_drop (wp_eqT (by simp -dsimp -implicitDefEqProofs [hm, hml, hr, hll2, boxAt]; rfl) ?_) | with_reducible refine wp_block' ?_
        | with_reducible refine wp_condVS (by simp -dsimp -implicitDefEqProofs [hm, hml, hr, hll2, boxAt]; rfl) ?_
        | with_reducible refine wp_condV (by simp -dsimp -implicitDefEqProofs [hm, hml, hr, hll2, boxAt]; rfl) ?_
        | with_reducible refine cond_t ?_ | with_reducible refine cond_f ?_ | with_reducible refine cond_v (fun h => ?_) (fun h => ?_)
        | with_reducible refine post_then ?_ | with_reducible refine post_thenE ?_ | with_reducible refine post_thenP ?_ | with_reducible refine post_blkP ?_ | with_reducible refine post_thenR ?_ | with_reducible refine post_blkN ?_ | with_reducible refine post_blkE ?_ | with_reducible refine post_blkF rfl ?_ | with_reducible refine post_blkR ?_
        | with_reducible refine seg_eval (by simp -dsimp -implicitDefEqProofs [hm, hml, hr, hll2, boxAt]; rfl) ?_
    all_goals first
      | exact hok
      | skip
    refine wp_loop' (fun j ts mm => ∃ i : Nat, i + j = l.length ∧ ts = [(2, .fptr (.agg [.v (.int .i64 v), .v (.int .u16 (m : Nat)), .fsl 3 (l.map avCt)]) 0), (3, .fptr (.agg [.v (.bool a), .v (.int .u8 d)]) 0), (5, .v (.int .u16 (forS (l.take i) a d : Nat))), (6, .v (.int .i64 i))] ∧ mm = []) l.length ?_ ?_
    · exact ⟨[], [], by simp, by simp, 0, by omega, by simp [forS], by simp⟩
    · rintro j ts mm ⟨i, hi, rfl, rfl⟩
      by_cases hlt : i < l.length
      · obtain ⟨x, hx⟩ : ∃ x, l[i]? = some x := ⟨_, List.getElem?_eq_getElem (by omega)⟩
        have hxo := hok x (List.mem_of_getElem? hx)
        have hd : decide ((i : Int) < (l.length : Int)) = true := by rw [decide_eq_true_eq]; omega
        have hd2 : decide (i < l.length) = true := by simp [hlt]
        have h64 : IntKind.wrap .i64 ((i : Int) + 1) = ((i + 1 : Nat) : Int) := by rw [IntWalk.i64_in _ (by omega)]; rfl
        have hsl := forS_lt (l.take i) a d
        have hst : forS (l.take (i + 1)) a d = if x.add = a ∧ x.id = d then withS (forS (l.take i) a d) x.who.toNat else forS (l.take i) a d := by rw [take_more hx, forS_snoc]
        obtain ⟨w, b, k⟩ := x
        obtain ⟨hw0, hw1, hd0, hd1⟩ := hxo
        simp only at hw0 hw1 hd0 hd1 hst
        cases he : (b == a && k == d)
        · have hne : ¬ (b = a ∧ k = d) := by simpa using he
          rw [if_neg hne] at hst
          repeat' first
              | with_reducible refine wp_regionS (seg_eval (by simp -dsimp -implicitDefEqProofs [avCt, cCt, hd, hd2, h64, hx, hw0, hw1, hd0, hd1, hsl, he, eqCells_bi, spWith]; rfl) ?_)
              | with_reducible refine wp_region (seg_eval (by simp -dsimp -implicitDefEqProofs [avCt, cCt, hd, hd2, h64, hx, hw0, hw1, hd0, hd1, hsl, he, eqCells_bi, spWith]; rfl) ?_)
              | with_reducible refine wp_drawsS (seg_eval (by simp -dsimp -implicitDefEqProofs [avCt, cCt, hd, hd2, h64, hx, hw0, hw1, hd0, hd1, hsl, he, eqCells_bi, spWith]; rfl) ?_)
              | with_reducible refine wp_draws (seg_eval (by simp -dsimp -implicitDefEqProofs [avCt, cCt, hd, hd2, h64, hx, hw0, hw1, hd0, hd1, hsl, he, eqCells_bi, spWith]; rfl) ?_)
              | with_reducible refine seg_fin ?_
              | with_reducible refine seg_pan ?_
              | with_reducible refine seg_both ?_ ?_
              | with_reducible refine seg_case (fun x h => ?_) (fun h => ?_)
              | with_reducible refine seg_gate (fun h => ?_) (fun h => ?_)
              | with_reducible refine seg_need ?_ ?_
              | with_reducible refine wp_assoc ?_ | with_reducible refine wp_skipS ?_ | with_reducible refine wp_retS ?_ | with_reducible refine wp_exitS ?_ | with_reducible refine wp_dropS (wp_eqT (by simp -dsimp -implicitDefEqProofs [avCt, cCt, hd, hd2, h64, hx, hw0, hw1, hd0, hd1, hsl, he, eqCells_bi, spWith]; rfl) ?_) | with_reducible refine wp_sealS (by simp -dsimp -implicitDefEqProofs [avCt, cCt, hd, hd2, h64, hx, hw0, hw1, hd0, hd1, hsl, he, eqCells_bi, spWith]; rfl) ?_ | with_reducible refine wp_seal (by simp -dsimp -implicitDefEqProofs [avCt, cCt, hd, hd2, h64, hx, hw0, hw1, hd0, hd1, hsl, he, eqCells_bi, spWith]; rfl) ?_ | with_reducible refine wp_closeS (by simp -dsimp -implicitDefEqProofs [avCt, cCt, hd, hd2, h64, hx, hw0, hw1, hd0, hd1, hsl, he, eqCells_bi, spWith]; rfl) ?_ | with_reducible refine wp_close (by simp -dsimp -implicitDefEqProofs [avCt, cCt, hd, hd2, h64, hx, hw0, hw1, hd0, hd1, hsl, he, eqCells_bi, spWith]; rfl) ?_ | with_reducible refine wp_conc_out ?_ | with_reducible refine wp_open_out ?_ | with_reducible refine wp_pack_out ?_ | with_reducible refine wp_blockS ?_ | with_reducible refine wp_skip' ?_ | with_reducible refine wp_ret' ?_ | with_reducible refine wp_exit' ?_ | with_reducible refine wp_drop (wp_eqT (by simp -dsimp -implicitDefEqProofs [avCt, cCt, hd, hd2, h64, hx, hw0, hw1, hd0, hd1, hsl, he, eqCells_bi, spWith]; rfl) ?_) | with_reducible refine wp_block' ?_
              | with_reducible refine wp_condVS (by simp -dsimp -implicitDefEqProofs [avCt, cCt, hd, hd2, h64, hx, hw0, hw1, hd0, hd1, hsl, he, eqCells_bi, spWith]; rfl) ?_
              | with_reducible refine wp_condV (by simp -dsimp -implicitDefEqProofs [avCt, cCt, hd, hd2, h64, hx, hw0, hw1, hd0, hd1, hsl, he, eqCells_bi, spWith]; rfl) ?_
              | with_reducible refine cond_t ?_ | with_reducible refine cond_f ?_ | with_reducible refine cond_v (fun h => ?_) (fun h => ?_)
              | with_reducible refine post_then ?_ | with_reducible refine post_thenE ?_ | with_reducible refine post_thenP ?_ | with_reducible refine post_blkP ?_ | with_reducible refine post_thenR ?_ | with_reducible refine post_blkN ?_ | with_reducible refine post_blkE ?_ | with_reducible refine post_blkF rfl ?_ | with_reducible refine post_blkR ?_
              | with_reducible refine seg_eval (by simp -dsimp -implicitDefEqProofs [avCt, cCt, hd, hd2, h64, hx, hw0, hw1, hd0, hd1, hsl, he, eqCells_bi, spWith]; rfl) ?_
          all_goals first
            | omega
            | exact ⟨j - 1, by omega, [], [], by simp, by simp, i + 1, by omega, by simp [hst, avCt, cCt], by simp⟩
            | trace_state
        · have hne : b = a ∧ k = d := by simpa using he
          rw [if_pos hne] at hst
          repeat' first
              | with_reducible refine wp_regionS (seg_eval (by simp -dsimp -implicitDefEqProofs [avCt, cCt, hd, hd2, h64, hx, hw0, hw1, hd0, hd1, hsl, he, eqCells_bi, spWith]; rfl) ?_)
              | with_reducible refine wp_region (seg_eval (by simp -dsimp -implicitDefEqProofs [avCt, cCt, hd, hd2, h64, hx, hw0, hw1, hd0, hd1, hsl, he, eqCells_bi, spWith]; rfl) ?_)
              | with_reducible refine wp_drawsS (seg_eval (by simp -dsimp -implicitDefEqProofs [avCt, cCt, hd, hd2, h64, hx, hw0, hw1, hd0, hd1, hsl, he, eqCells_bi, spWith]; rfl) ?_)
              | with_reducible refine wp_draws (seg_eval (by simp -dsimp -implicitDefEqProofs [avCt, cCt, hd, hd2, h64, hx, hw0, hw1, hd0, hd1, hsl, he, eqCells_bi, spWith]; rfl) ?_)
              | with_reducible refine seg_fin ?_
              | with_reducible refine seg_pan ?_
              | with_reducible refine seg_both ?_ ?_
              | with_reducible refine seg_case (fun x h => ?_) (fun h => ?_)
              | with_reducible refine seg_gate (fun h => ?_) (fun h => ?_)
              | with_reducible refine seg_need ?_ ?_
              | with_reducible refine wp_assoc ?_ | with_reducible refine wp_skipS ?_ | with_reducible refine wp_retS ?_ | with_reducible refine wp_exitS ?_ | with_reducible refine wp_dropS (wp_eqT (by simp -dsimp -implicitDefEqProofs [avCt, cCt, hd, hd2, h64, hx, hw0, hw1, hd0, hd1, hsl, he, eqCells_bi, spWith]; rfl) ?_) | with_reducible refine wp_sealS (by simp -dsimp -implicitDefEqProofs [avCt, cCt, hd, hd2, h64, hx, hw0, hw1, hd0, hd1, hsl, he, eqCells_bi, spWith]; rfl) ?_ | with_reducible refine wp_seal (by simp -dsimp -implicitDefEqProofs [avCt, cCt, hd, hd2, h64, hx, hw0, hw1, hd0, hd1, hsl, he, eqCells_bi, spWith]; rfl) ?_ | with_reducible refine wp_closeS (by simp -dsimp -implicitDefEqProofs [avCt, cCt, hd, hd2, h64, hx, hw0, hw1, hd0, hd1, hsl, he, eqCells_bi, spWith]; rfl) ?_ | with_reducible refine wp_close (by simp -dsimp -implicitDefEqProofs [avCt, cCt, hd, hd2, h64, hx, hw0, hw1, hd0, hd1, hsl, he, eqCells_bi, spWith]; rfl) ?_ | with_reducible refine wp_conc_out ?_ | with_reducible refine wp_open_out ?_ | with_reducible refine wp_pack_out ?_ | with_reducible refine wp_blockS ?_ | with_reducible refine wp_skip' ?_ | with_reducible refine wp_ret' ?_ | with_reducible refine wp_exit' ?_ | with_reducible refine wp_drop (wp_eqT (by simp -dsimp -implicitDefEqProofs [avCt, cCt, hd, hd2, h64, hx, hw0, hw1, hd0, hd1, hsl, he, eqCells_bi, spWith]; rfl) ?_) | with_reducible refine wp_block' ?_
              | with_reducible refine wp_condVS (by simp -dsimp -implicitDefEqProofs [avCt, cCt, hd, hd2, h64, hx, hw0, hw1, hd0, hd1, hsl, he, eqCells_bi, spWith]; rfl) ?_
              | with_reducible refine wp_condV (by simp -dsimp -implicitDefEqProofs [avCt, cCt, hd, hd2, h64, hx, hw0, hw1, hd0, hd1, hsl, he, eqCells_bi, spWith]; rfl) ?_
              | with_reducible refine cond_t ?_ | with_reducible refine cond_f ?_ | with_reducible refine cond_v (fun h => ?_) (fun h => ?_)
              | with_reducible refine post_then ?_ | with_reducible refine post_thenE ?_ | with_reducible refine post_thenP ?_ | with_reducible refine post_blkP ?_ | with_reducible refine post_thenR ?_ | with_reducible refine post_blkN ?_ | with_reducible refine post_blkE ?_ | with_reducible refine post_blkF rfl ?_ | with_reducible refine post_blkR ?_
              | with_reducible refine seg_eval (by simp -dsimp -implicitDefEqProofs [avCt, cCt, hd, hd2, h64, hx, hw0, hw1, hd0, hd1, hsl, he, eqCells_bi, spWith]; rfl) ?_
          all_goals first
            | omega
            | exact ⟨j - 1, by omega, [], [], by simp, by simp, i + 1, by omega, by simp [hst, avCt, cCt], by simp⟩
            | trace_state
      · have hd : decide ((i : Int) < (l.length : Int)) = false := by rw [decide_eq_false_iff_not]; omega
        have hd2 : decide (i < l.length) = false := by simp [hlt]
        rw [List.take_of_length_le (by omega)]
        repeat' first
            | with_reducible refine wp_regionS (seg_eval (by simp -dsimp -implicitDefEqProofs [hd, hd2]; rfl) ?_)
            | with_reducible refine wp_region (seg_eval (by simp -dsimp -implicitDefEqProofs [hd, hd2]; rfl) ?_)
            | with_reducible refine wp_drawsS (seg_eval (by simp -dsimp -implicitDefEqProofs [hd, hd2]; rfl) ?_)
            | with_reducible refine wp_draws (seg_eval (by simp -dsimp -implicitDefEqProofs [hd, hd2]; rfl) ?_)
            | with_reducible refine seg_fin ?_
            | with_reducible refine seg_pan ?_
            | with_reducible refine seg_both ?_ ?_
            | with_reducible refine seg_case (fun x h => ?_) (fun h => ?_)
            | with_reducible refine seg_gate (fun h => ?_) (fun h => ?_)
            | with_reducible refine seg_need ?_ ?_
            | with_reducible refine wp_assoc ?_ | with_reducible refine wp_skipS ?_ | with_reducible refine wp_retS ?_ | with_reducible refine wp_exitS ?_ | with_reducible refine wp_dropS (wp_eqT (by simp -dsimp -implicitDefEqProofs [hd, hd2]; rfl) ?_) | with_reducible refine wp_sealS (by simp -dsimp -implicitDefEqProofs [hd, hd2]; rfl) ?_ | with_reducible refine wp_seal (by simp -dsimp -implicitDefEqProofs [hd, hd2]; rfl) ?_ | with_reducible refine wp_closeS (by simp -dsimp -implicitDefEqProofs [hd, hd2]; rfl) ?_ | with_reducible refine wp_close (by simp -dsimp -implicitDefEqProofs [hd, hd2]; rfl) ?_ | with_reducible refine wp_conc_out ?_ | with_reducible refine wp_open_out ?_ | with_reducible refine wp_pack_out ?_ | with_reducible refine wp_blockS ?_ | with_reducible refine wp_skip' ?_ | with_reducible refine wp_ret' ?_ | with_reducible refine wp_exit' ?_ | with_reducible refine wp_drop (wp_eqT (by simp -dsimp -implicitDefEqProofs [hd, hd2]; rfl) ?_) | with_reducible refine wp_block' ?_
            | with_reducible refine wp_condVS (by simp -dsimp -implicitDefEqProofs [hd, hd2]; rfl) ?_
            | with_reducible refine wp_condV (by simp -dsimp -implicitDefEqProofs [hd, hd2]; rfl) ?_
            | with_reducible refine cond_t ?_ | with_reducible refine cond_f ?_ | with_reducible refine cond_v (fun h => ?_) (fun h => ?_)
            | with_reducible refine post_then ?_ | with_reducible refine post_thenE ?_ | with_reducible refine post_thenP ?_ | with_reducible refine post_blkP ?_ | with_reducible refine post_thenR ?_ | with_reducible refine post_blkN ?_ | with_reducible refine post_blkE ?_ | with_reducible refine post_blkF rfl ?_ | with_reducible refine post_blkR ?_
            | with_reducible refine seg_eval (by simp -dsimp -implicitDefEqProofs [hd, hd2]; rfl) ?_
        all_goals first
          | omega
          | exact post_fin rfl rfl ⟨[], [], rfl, rfl, rfl, rfl⟩
          | trace_state
end Go.Proofs.Ytbponegjfccgfaa.Am
