/-
  A CAST PUT INTO A BOX.
-/
import Derived.Test.YtbponegjfccgfaaB3
import Derived.Test.YtbponegjfccgfaaSBCt
import Derived.Test.YtbponegjfccgfaaSCCt
import Derived.Test.YtbponegjfccgfaaSICt
namespace Go.Proofs.Ytbponegjfccgfaa.Am
set_option linter.unusedSimpArgs false
set_option linter.unusedVariables false
open Go Go.Proofs
attribute [local irreducible] wpA
attribute [-simp] splice

theorem sort_ofC {α : Type} {key : α → Int} : ∀ {l : List α}, (∀ (i : Nat) (p m : α), l[i]? = some p → l[i + 1]? = some m → key p < key m) → SortK key l
  | [], _ => List.Pairwise.nil
  | [x], _ => List.pairwise_singleton _ _
  | x :: y :: l, h => by
    have h2 : SortK key (y :: l) := sort_ofC fun i p m hp hm => h (i + 1) p m (by simpa using hp) (by simpa using hm)
    have hxy : key x < key y := h 0 x y rfl rfl
    refine List.Pairwise.cons (fun z hz => ?_) h2
    rcases List.mem_cons.1 hz with rfl | hz
    · exact hxy
    · have := (List.pairwise_cons.1 h2).1 z hz
      omega
theorem cts_sort {v : Int} {m : Nat} {l : List Ct} (h : CtF v m l) : SortK keyCt l := sort_ofC fun i p c hp hc => (h (i + 1) c hc).2.2 (by omega) p (by simpa using hp)

noncomputable def putC (v : Int) (m : Nat) (l : List Ct) (c : Ct) : List Ct × Int :=
  if boxB v m l = false then (l, 2) else if hasS m c.who.toNat = false then (l, 10) else if isK' keyCt c.who l = true then (l, 9)
  else if (applyV v m c.add c.id.toNat).2 ≠ 0 then (l, (applyV v m c.add c.id.toNat).2) else (insK keyCt c l, 0)
noncomputable def spPutC : Spec := spc (X := Int × Nat × List Ct × Ct) (fun p => ([avBox p.1 p.2.1 p.2.2.1, avCt p.2.2.2], []))
  (fun p => p.2.1 < 65536 ∧ p.2.2.1.length ≤ 1000000 ∧ (∀ y ∈ p.2.2.1, okCt y) ∧ okCt p.2.2.2)
  (fun p => (.ret (.tup [avBox p.1 p.2.1 (putC p.1 p.2.1 p.2.2.1 p.2.2.2).1, .v (.int .i64 (putC p.1 p.2.1 p.2.2.1 p.2.2.2).2)]), []))
open Classical in
theorem putCAt (v : Int) (m : Nat) (l : List Ct) (w : Int) (a : Bool) (d : Int) : spPutC [.agg [.v (.int .i64 v), .v (.int .u16 (m : Nat)), .fsl 3 (l.map avCt)], .agg [.v (.int .u8 w), .v (.bool a), .v (.int .u8 d)]] [] =
    if m < 65536 ∧ l.length ≤ 1000000 ∧ (∀ y ∈ l, okCt y) ∧ okCt ⟨w, a, d⟩ then
      some (.ret (.tup [.agg [.v (.int .i64 v), .v (.int .u16 (m : Nat)), .fsl 3 ((putC v m l ⟨w, a, d⟩).1.map avCt)], .v (.int .i64 (putC v m l ⟨w, a, d⟩).2)]), []) else none :=
  spc_at (f := fun p : Int × Nat × List Ct × Ct => ([avBox p.1 p.2.1 p.2.2.1, avCt p.2.2.2], [])) (fun x y h => by
    simp only [Prod.mk.injEq, List.cons.injEq, and_true] at h
    obtain ⟨h1, h2, h3⟩ := avBox_inj h.1
    exact Prod.ext h1 (Prod.ext h2 (Prod.ext h3 (inj_avCt h.2)))) (v, m, l, (⟨w, a, d⟩ : Ct))
open Classical in
theorem bsfAtC (l : List Ct) (w : Int) (a : Bool) (d : Int) : spBSFCt [.fsl 3 (l.map avCt), .agg [.v (.int .u8 w), .v (.bool a), .v (.int .u8 d)], .v (.func (.func 55) #[] #[])] [] =
    if SortK keyCt l ∧ l.length ≤ 100000000 ∧ (∀ y ∈ l, okCt y) ∧ okCt ⟨w, a, d⟩ then some (.ret (.tup [.v (.int .i64 (posK keyCt w l)), .v (.bool (isK' keyCt w l))]), []) else none :=
  spc_at (f := fun p : List Ct × Ct => ([.fsl 3 (p.1.map avCt), avCt p.2, .v (.func (.func 55) #[] #[])], [])) (fun x y h => by
    simp only [Prod.mk.injEq, List.cons.injEq, and_true, true_and, AV.fsl.injEq] at h
    exact Prod.ext (map_avCt h.1) (inj_avCt h.2)) (l, (⟨w, a, d⟩ : Ct))
theorem avCt_shaped (c : Ct) : (avCt c).shaped = true := by simp [avCt, cCt, AV.shaped, AV.one, Value.oneCell']

set_option maxHeartbeats 8000000 in
theorem putC_ok : CallOk Try.prog 25 spPutC := by
  refine ok_25 (Env.put_ok [] (Env.put_ok [] (Env.put_ok [true] (Env.put_ok [true] (Env.put_ok [true, true, true] (Env.put_ok [] (Env.none_ok _) has_ok) insCt_ok)
    (CallOk.borrow (g_54).enters (bsfCt_ok ordCt_ok)))
    (CallOk.borrow (g_53).enters boxRight_ok)) cloneCt_ok) apply_ok) spPutC (wb_spc ?_)
  rintro ⟨v, m, l, ⟨w, a, d⟩⟩ ⟨hm, hll, hok, hc⟩
  simp only [avBox] at hm hll hok hc ⊢
  have hml : (m : Int) < 65536 := by omega
  have hll2 : l.length ≤ 100000000 := by omega
  have hsh : (l.map avCt).all AV.shaped = true := map_shaped fun x _ => avCt_shaped x
  obtain ⟨hw0, hw1, hd0, hd1⟩ := id hc
  simp only at hw0 hw1 hd0 hd1
  unfold ac_25
  simp only [avCt, cCt]
  have eav : (fun c => AV.agg (cCt c)) = avCt := rfl
  cases hr : boxB v m l
  · have hp : putC v m l ⟨w, a, d⟩ = (l, 2) := by simp [putC, hr]
    rw [hp]
    repeat' first
        | with_reducible refine wp_regionS (seg_eval (by simp -dsimp -implicitDefEqProofs [hw0, hw1, hd0, hd1, hm, hml, hr, hll2, hok, hsh, spCloneCt, boxAt]; rfl) ?_)
        | with_reducible refine wp_region (seg_eval (by simp -dsimp -implicitDefEqProofs [hw0, hw1, hd0, hd1, hm, hml, hr, hll2, hok, hsh, spCloneCt, boxAt]; rfl) ?_)
        | with_reducible refine wp_drawsS (seg_eval (by simp -dsimp -implicitDefEqProofs [hw0, hw1, hd0, hd1, hm, hml, hr, hll2, hok, hsh, spCloneCt, boxAt]; rfl) ?_)
        | with_reducible refine wp_draws (seg_eval (by simp -dsimp -implicitDefEqProofs [hw0, hw1, hd0, hd1, hm, hml, hr, hll2, hok, hsh, spCloneCt, boxAt]; rfl) ?_)
        | with_reducible refine seg_fin ?_
        | with_reducible refine seg_pan ?_
        | with_reducible refine seg_both ?_ ?_
        | with_reducible refine seg_case (fun x h => ?_) (fun h => ?_)
        | with_reducible refine seg_gate (fun h => ?_) (fun h => ?_)
        | with_reducible refine seg_need ?_ ?_
        | with_reducible refine wp_assoc ?_ | with_reducible refine wp_skipS ?_ | with_reducible refine wp_retS ?_ | with_reducible refine wp_exitS ?_ | with_reducible refine wp_dropS (wp_eqT (by simp -dsimp -implicitDefEqProofs [hw0, hw1, hd0, hd1, hm, hml, hr, hll2, hok, hsh, spCloneCt, boxAt]; rfl) ?_) | with_reducible refine wp_sealS (by simp -dsimp -implicitDefEqProofs [hw0, hw1, hd0, hd1, hm, hml, hr, hll2, hok, hsh, spCloneCt, boxAt]; rfl) ?_ | with_reducible refine wp_seal (by simp -dsimp -implicitDefEqProofs [hw0, hw1, hd0, hd1, hm, hml, hr, hll2, hok, hsh, spCloneCt, boxAt]; rfl) ?_ | with_reducible refine wp_closeS (by simp -dsimp -implicitDefEqProofs [hw0, hw1, hd0, hd1, hm, hml, hr, hll2, hok, hsh, spCloneCt, boxAt]; rfl) ?_ | with_reducible refine wp_close (by simp -dsimp -implicitDefEqProofs [hw0, hw1, hd0, hd1, hm, hml, hr, hll2, hok, hsh, spCloneCt, boxAt]; rfl) ?_ | with_reducible refine wp_conc_out ?_ | with_reducible refine wp_open_out ?_ | with_reducible refine wp_pack_out ?_ | with_reducible refine wp_blockS ?_ | with_reducible refine wp_skip' ?_ | with_reducible refine wp_ret' ?_ | with_reducible refine wp_exit' ?_ | with_reducible refine wp_drop (wp_eqT (by simp -dsimp -implicitDefEqProofs [hw0, hw1, hd0, hd1, hm, hml, hr, hll2, hok, hsh, spCloneCt, boxAt]; rfl) ?_) | with_reducible refine wp_block' ?_
        | with_reducible refine wp_condVS (by simp -dsimp -implicitDefEqProofs [hw0, hw1, hd0, hd1, hm, hml, hr, hll2, hok, hsh, spCloneCt, boxAt]; rfl) ?_
        | with_reducible refine wp_condV (by simp -dsimp -implicitDefEqProofs [hw0, hw1, hd0, hd1, hm, hml, hr, hll2, hok, hsh, spCloneCt, boxAt]; rfl) ?_
        | with_reducible refine cond_t ?_ | with_reducible refine cond_f ?_ | with_reducible refine cond_v (fun h => ?_) (fun h => ?_)
        | with_reducible refine post_then ?_ | with_reducible refine post_thenE ?_ | with_reducible refine post_thenP ?_ | with_reducible refine post_blkP ?_ | with_reducible refine post_thenR ?_ | with_reducible refine post_blkN ?_ | with_reducible refine post_blkE ?_ | with_reducible refine post_blkF rfl ?_ | with_reducible refine post_blkR ?_
        | with_reducible refine seg_eval (by simp -dsimp -implicitDefEqProofs [hw0, hw1, hd0, hd1, hm, hml, hr, hll2, hok, hsh, spCloneCt, boxAt]; rfl) ?_
    all_goals first
      | omega
      | exact hok
      | exact post_fin rfl rfl ⟨[3], [], rfl, rfl, rfl, rfl⟩
      | trace_state
  · have hst := cts_sort (box_iff.1 hr).2
    cases hh : hasS m w.toNat
    · have hp : putC v m l ⟨w, a, d⟩ = (l, 10) := by simp [putC, hr, hh]
      rw [hp]
      repeat' first
          | with_reducible refine wp_regionS (seg_eval (by simp -dsimp -implicitDefEqProofs [hw0, hw1, hd0, hd1, hm, hml, hr, hll2, hok, hsh, hst, hc, spCloneCt, boxAt, bsfAtC, spHas, hh]; rfl) ?_)
          | with_reducible refine wp_region (seg_eval (by simp -dsimp -implicitDefEqProofs [hw0, hw1, hd0, hd1, hm, hml, hr, hll2, hok, hsh, hst, hc, spCloneCt, boxAt, bsfAtC, spHas, hh]; rfl) ?_)
          | with_reducible refine wp_drawsS (seg_eval (by simp -dsimp -implicitDefEqProofs [hw0, hw1, hd0, hd1, hm, hml, hr, hll2, hok, hsh, hst, hc, spCloneCt, boxAt, bsfAtC, spHas, hh]; rfl) ?_)
          | with_reducible refine wp_draws (seg_eval (by simp -dsimp -implicitDefEqProofs [hw0, hw1, hd0, hd1, hm, hml, hr, hll2, hok, hsh, hst, hc, spCloneCt, boxAt, bsfAtC, spHas, hh]; rfl) ?_)
          | with_reducible refine seg_fin ?_
          | with_reducible refine seg_pan ?_
          | with_reducible refine seg_both ?_ ?_
          | with_reducible refine seg_case (fun x h => ?_) (fun h => ?_)
          | with_reducible refine seg_gate (fun h => ?_) (fun h => ?_)
          | with_reducible refine seg_need ?_ ?_
          | with_reducible refine wp_assoc ?_ | with_reducible refine wp_skipS ?_ | with_reducible refine wp_retS ?_ | with_reducible refine wp_exitS ?_ | with_reducible refine wp_dropS (wp_eqT (by simp -dsimp -implicitDefEqProofs [hw0, hw1, hd0, hd1, hm, hml, hr, hll2, hok, hsh, hst, hc, spCloneCt, boxAt, bsfAtC, spHas, hh]; rfl) ?_) | with_reducible refine wp_sealS (by simp -dsimp -implicitDefEqProofs [hw0, hw1, hd0, hd1, hm, hml, hr, hll2, hok, hsh, hst, hc, spCloneCt, boxAt, bsfAtC, spHas, hh]; rfl) ?_ | with_reducible refine wp_seal (by simp -dsimp -implicitDefEqProofs [hw0, hw1, hd0, hd1, hm, hml, hr, hll2, hok, hsh, hst, hc, spCloneCt, boxAt, bsfAtC, spHas, hh]; rfl) ?_ | with_reducible refine wp_closeS (by simp -dsimp -implicitDefEqProofs [hw0, hw1, hd0, hd1, hm, hml, hr, hll2, hok, hsh, hst, hc, spCloneCt, boxAt, bsfAtC, spHas, hh]; rfl) ?_ | with_reducible refine wp_close (by simp -dsimp -implicitDefEqProofs [hw0, hw1, hd0, hd1, hm, hml, hr, hll2, hok, hsh, hst, hc, spCloneCt, boxAt, bsfAtC, spHas, hh]; rfl) ?_ | with_reducible refine wp_conc_out ?_ | with_reducible refine wp_open_out ?_ | with_reducible refine wp_pack_out ?_ | with_reducible refine wp_blockS ?_ | with_reducible refine wp_skip' ?_ | with_reducible refine wp_ret' ?_ | with_reducible refine wp_exit' ?_ | with_reducible refine wp_drop (wp_eqT (by simp -dsimp -implicitDefEqProofs [hw0, hw1, hd0, hd1, hm, hml, hr, hll2, hok, hsh, hst, hc, spCloneCt, boxAt, bsfAtC, spHas, hh]; rfl) ?_) | with_reducible refine wp_block' ?_
          | with_reducible refine wp_condVS (by simp -dsimp -implicitDefEqProofs [hw0, hw1, hd0, hd1, hm, hml, hr, hll2, hok, hsh, hst, hc, spCloneCt, boxAt, bsfAtC, spHas, hh]; rfl) ?_
          | with_reducible refine wp_condV (by simp -dsimp -implicitDefEqProofs [hw0, hw1, hd0, hd1, hm, hml, hr, hll2, hok, hsh, hst, hc, spCloneCt, boxAt, bsfAtC, spHas, hh]; rfl) ?_
          | with_reducible refine cond_t ?_ | with_reducible refine cond_f ?_ | with_reducible refine cond_v (fun h => ?_) (fun h => ?_)
          | with_reducible refine post_then ?_ | with_reducible refine post_thenE ?_ | with_reducible refine post_thenP ?_ | with_reducible refine post_blkP ?_ | with_reducible refine post_thenR ?_ | with_reducible refine post_blkN ?_ | with_reducible refine post_blkE ?_ | with_reducible refine post_blkF rfl ?_ | with_reducible refine post_blkR ?_
          | with_reducible refine seg_eval (by simp -dsimp -implicitDefEqProofs [hw0, hw1, hd0, hd1, hm, hml, hr, hll2, hok, hsh, hst, hc, spCloneCt, boxAt, bsfAtC, spHas, hh]; rfl) ?_
      all_goals first
        | omega
        | exact hok
        | exact post_fin rfl rfl ⟨[3], [], rfl, rfl, rfl, rfl⟩
        | trace_state
    · cases hi : isK' keyCt w l
      · by_cases ha : (applyV v m a d.toNat).2 = 0
        · have hp : putC v m l ⟨w, a, d⟩ = (insK keyCt ⟨w, a, d⟩ l, 0) := by simp [putC, hr, hh, hi, ha]
          have ha2 : ((applyV v m a d.toNat).2 != 0) = false := by simp [ha]
          rw [hp]
          have hpl := posK_le (key := keyCt) w l
          have hmc : (AV.agg [AV.v (.int .u8 w), .v (.bool a), .v (.int .u8 d)]).shaped = true := by simp [AV.shaped, AV.one, Value.oneCell']
          repeat' first
              | with_reducible refine wp_regionS (seg_eval (by simp -dsimp -implicitDefEqProofs [hw0, hw1, hd0, hd1, hm, hml, hr, hll2, hok, hsh, hst, hc, spCloneCt, boxAt, bsfAtC, spHas, spApplyV, hh, hi, ha, ha2, spInsCt, hpl, hmc]; rfl) ?_)
              | with_reducible refine wp_region (seg_eval (by simp -dsimp -implicitDefEqProofs [hw0, hw1, hd0, hd1, hm, hml, hr, hll2, hok, hsh, hst, hc, spCloneCt, boxAt, bsfAtC, spHas, spApplyV, hh, hi, ha, ha2, spInsCt, hpl, hmc]; rfl) ?_)
              | with_reducible refine wp_drawsS (seg_eval (by simp -dsimp -implicitDefEqProofs [hw0, hw1, hd0, hd1, hm, hml, hr, hll2, hok, hsh, hst, hc, spCloneCt, boxAt, bsfAtC, spHas, spApplyV, hh, hi, ha, ha2, spInsCt, hpl, hmc]; rfl) ?_)
              | with_reducible refine wp_draws (seg_eval (by simp -dsimp -implicitDefEqProofs [hw0, hw1, hd0, hd1, hm, hml, hr, hll2, hok, hsh, hst, hc, spCloneCt, boxAt, bsfAtC, spHas, spApplyV, hh, hi, ha, ha2, spInsCt, hpl, hmc]; rfl) ?_)
              | with_reducible refine seg_fin ?_
              | with_reducible refine seg_pan ?_
              | with_reducible refine seg_both ?_ ?_
              | with_reducible refine seg_case (fun x h => ?_) (fun h => ?_)
              | with_reducible refine seg_gate (fun h => ?_) (fun h => ?_)
              | with_reducible refine seg_need ?_ ?_
              | with_reducible refine wp_assoc ?_ | with_reducible refine wp_skipS ?_ | with_reducible refine wp_retS ?_ | with_reducible refine wp_exitS ?_ | with_reducible refine wp_dropS (wp_eqT (by simp -dsimp -implicitDefEqProofs [hw0, hw1, hd0, hd1, hm, hml, hr, hll2, hok, hsh, hst, hc, spCloneCt, boxAt, bsfAtC, spHas, spApplyV, hh, hi, ha, ha2, spInsCt, hpl, hmc]; rfl) ?_) | with_reducible refine wp_sealS (by simp -dsimp -implicitDefEqProofs [hw0, hw1, hd0, hd1, hm, hml, hr, hll2, hok, hsh, hst, hc, spCloneCt, boxAt, bsfAtC, spHas, spApplyV, hh, hi, ha, ha2, spInsCt, hpl, hmc]; rfl) ?_ | with_reducible refine wp_seal (by simp -dsimp -implicitDefEqProofs [hw0, hw1, hd0, hd1, hm, hml, hr, hll2, hok, hsh, hst, hc, spCloneCt, boxAt, bsfAtC, spHas, spApplyV, hh, hi, ha, ha2, spInsCt, hpl, hmc]; rfl) ?_ | with_reducible refine wp_closeS (by simp -dsimp -implicitDefEqProofs [hw0, hw1, hd0, hd1, hm, hml, hr, hll2, hok, hsh, hst, hc, spCloneCt, boxAt, bsfAtC, spHas, spApplyV, hh, hi, ha, ha2, spInsCt, hpl, hmc]; rfl) ?_ | with_reducible refine wp_close (by simp -dsimp -implicitDefEqProofs [hw0, hw1, hd0, hd1, hm, hml, hr, hll2, hok, hsh, hst, hc, spCloneCt, boxAt, bsfAtC, spHas, spApplyV, hh, hi, ha, ha2, spInsCt, hpl, hmc]; rfl) ?_ | with_reducible refine wp_conc_out ?_ | with_reducible refine wp_open_out ?_ | with_reducible refine wp_pack_out ?_ | with_reducible refine wp_blockS ?_ | with_reducible refine wp_skip' ?_ | with_reducible refine wp_ret' ?_ | with_reducible refine wp_exit' ?_ | with_reducible refine wp_drop (wp_eqT (by simp -dsimp -implicitDefEqProofs [hw0, hw1, hd0, hd1, hm, hml, hr, hll2, hok, hsh, hst, hc, spCloneCt, boxAt, bsfAtC, spHas, spApplyV, hh, hi, ha, ha2, spInsCt, hpl, hmc]; rfl) ?_) | with_reducible refine wp_block' ?_
              | with_reducible refine wp_condVS (by simp -dsimp -implicitDefEqProofs [hw0, hw1, hd0, hd1, hm, hml, hr, hll2, hok, hsh, hst, hc, spCloneCt, boxAt, bsfAtC, spHas, spApplyV, hh, hi, ha, ha2, spInsCt, hpl, hmc]; rfl) ?_
              | with_reducible refine wp_condV (by simp -dsimp -implicitDefEqProofs [hw0, hw1, hd0, hd1, hm, hml, hr, hll2, hok, hsh, hst, hc, spCloneCt, boxAt, bsfAtC, spHas, spApplyV, hh, hi, ha, ha2, spInsCt, hpl, hmc]; rfl) ?_
              | with_reducible refine cond_t ?_ | with_reducible refine cond_f ?_ | with_reducible refine cond_v (fun h => ?_) (fun h => ?_)
              | with_reducible refine post_then ?_ | with_reducible refine post_thenE ?_ | with_reducible refine post_thenP ?_ | with_reducible refine post_blkP ?_ | with_reducible refine post_thenR ?_ | with_reducible refine post_blkN ?_ | with_reducible refine post_blkE ?_ | with_reducible refine post_blkF rfl ?_ | with_reducible refine post_blkR ?_
              | with_reducible refine seg_eval (by simp -dsimp -implicitDefEqProofs [hw0, hw1, hd0, hd1, hm, hml, hr, hll2, hok, hsh, hst, hc, spCloneCt, boxAt, bsfAtC, spHas, spApplyV, hh, hi, ha, ha2, spInsCt, hpl, hmc]; rfl) ?_
          all_goals first
            | omega
            | exact hok
            | (have him : (insK keyCt ⟨w, a, d⟩ l).map avCt = (l.map avCt).take (posK keyCt w l) ++ AV.agg [AV.v (.int .u8 w), .v (.bool a), .v (.int .u8 d)] :: (l.map avCt).drop (posK keyCt w l) := by simp [insK, keyCt, avCt, cCt]
               simp only [him]
               first
                 | exact post_fin rfl rfl ⟨[5], [], rfl, rfl, rfl, rfl⟩
                 | exact post_fin rfl rfl ⟨[6], [], rfl, rfl, rfl, rfl⟩)
            | trace_state
        · have hp : putC v m l ⟨w, a, d⟩ = (l, (applyV v m a d.toNat).2) := by simp [putC, hr, hh, hi, ha]
          have ha2 : ((applyV v m a d.toNat).2 != 0) = true := by simp [ha]
          rw [hp]
          repeat' first
              | with_reducible refine wp_regionS (seg_eval (by simp -dsimp -implicitDefEqProofs [hw0, hw1, hd0, hd1, hm, hml, hr, hll2, hok, hsh, hst, hc, spCloneCt, boxAt, bsfAtC, spHas, spApplyV, hh, hi, ha2]; rfl) ?_)
              | with_reducible refine wp_region (seg_eval (by simp -dsimp -implicitDefEqProofs [hw0, hw1, hd0, hd1, hm, hml, hr, hll2, hok, hsh, hst, hc, spCloneCt, boxAt, bsfAtC, spHas, spApplyV, hh, hi, ha2]; rfl) ?_)
              | with_reducible refine wp_drawsS (seg_eval (by simp -dsimp -implicitDefEqProofs [hw0, hw1, hd0, hd1, hm, hml, hr, hll2, hok, hsh, hst, hc, spCloneCt, boxAt, bsfAtC, spHas, spApplyV, hh, hi, ha2]; rfl) ?_)
              | with_reducible refine wp_draws (seg_eval (by simp -dsimp -implicitDefEqProofs [hw0, hw1, hd0, hd1, hm, hml, hr, hll2, hok, hsh, hst, hc, spCloneCt, boxAt, bsfAtC, spHas, spApplyV, hh, hi, ha2]; rfl) ?_)
              | with_reducible refine seg_fin ?_
              | with_reducible refine seg_pan ?_
              | with_reducible refine seg_both ?_ ?_
              | with_reducible refine seg_case (fun x h => ?_) (fun h => ?_)
              | with_reducible refine seg_gate (fun h => ?_) (fun h => ?_)
              | with_reducible refine seg_need ?_ ?_
              | with_reducible refine wp_assoc ?_ | with_reducible refine wp_skipS ?_ | with_reducible refine wp_retS ?_ | with_reducible refine wp_exitS ?_ | with_reducible refine wp_dropS (wp_eqT (by simp -dsimp -implicitDefEqProofs [hw0, hw1, hd0, hd1, hm, hml, hr, hll2, hok, hsh, hst, hc, spCloneCt, boxAt, bsfAtC, spHas, spApplyV, hh, hi, ha2]; rfl) ?_) | with_reducible refine wp_sealS (by simp -dsimp -implicitDefEqProofs [hw0, hw1, hd0, hd1, hm, hml, hr, hll2, hok, hsh, hst, hc, spCloneCt, boxAt, bsfAtC, spHas, spApplyV, hh, hi, ha2]; rfl) ?_ | with_reducible refine wp_seal (by simp -dsimp -implicitDefEqProofs [hw0, hw1, hd0, hd1, hm, hml, hr, hll2, hok, hsh, hst, hc, spCloneCt, boxAt, bsfAtC, spHas, spApplyV, hh, hi, ha2]; rfl) ?_ | with_reducible refine wp_closeS (by simp -dsimp -implicitDefEqProofs [hw0, hw1, hd0, hd1, hm, hml, hr, hll2, hok, hsh, hst, hc, spCloneCt, boxAt, bsfAtC, spHas, spApplyV, hh, hi, ha2]; rfl) ?_ | with_reducible refine wp_close (by simp -dsimp -implicitDefEqProofs [hw0, hw1, hd0, hd1, hm, hml, hr, hll2, hok, hsh, hst, hc, spCloneCt, boxAt, bsfAtC, spHas, spApplyV, hh, hi, ha2]; rfl) ?_ | with_reducible refine wp_conc_out ?_ | with_reducible refine wp_open_out ?_ | with_reducible refine wp_pack_out ?_ | with_reducible refine wp_blockS ?_ | with_reducible refine wp_skip' ?_ | with_reducible refine wp_ret' ?_ | with_reducible refine wp_exit' ?_ | with_reducible refine wp_drop (wp_eqT (by simp -dsimp -implicitDefEqProofs [hw0, hw1, hd0, hd1, hm, hml, hr, hll2, hok, hsh, hst, hc, spCloneCt, boxAt, bsfAtC, spHas, spApplyV, hh, hi, ha2]; rfl) ?_) | with_reducible refine wp_block' ?_
              | with_reducible refine wp_condVS (by simp -dsimp -implicitDefEqProofs [hw0, hw1, hd0, hd1, hm, hml, hr, hll2, hok, hsh, hst, hc, spCloneCt, boxAt, bsfAtC, spHas, spApplyV, hh, hi, ha2]; rfl) ?_
              | with_reducible refine wp_condV (by simp -dsimp -implicitDefEqProofs [hw0, hw1, hd0, hd1, hm, hml, hr, hll2, hok, hsh, hst, hc, spCloneCt, boxAt, bsfAtC, spHas, spApplyV, hh, hi, ha2]; rfl) ?_
              | with_reducible refine cond_t ?_ | with_reducible refine cond_f ?_ | with_reducible refine cond_v (fun h => ?_) (fun h => ?_)
              | with_reducible refine post_then ?_ | with_reducible refine post_thenE ?_ | with_reducible refine post_thenP ?_ | with_reducible refine post_blkP ?_ | with_reducible refine post_thenR ?_ | with_reducible refine post_blkN ?_ | with_reducible refine post_blkE ?_ | with_reducible refine post_blkF rfl ?_ | with_reducible refine post_blkR ?_
              | with_reducible refine seg_eval (by simp -dsimp -implicitDefEqProofs [hw0, hw1, hd0, hd1, hm, hml, hr, hll2, hok, hsh, hst, hc, spCloneCt, boxAt, bsfAtC, spHas, spApplyV, hh, hi, ha2]; rfl) ?_
          all_goals first
            | omega
            | exact hok
            | exact post_fin rfl rfl ⟨[3], [], rfl, rfl, rfl, rfl⟩
            | trace_state
      · have hp : putC v m l ⟨w, a, d⟩ = (l, 9) := by simp [putC, hr, hh, hi]
        rw [hp]
        repeat' first
            | with_reducible refine wp_regionS (seg_eval (by simp -dsimp -implicitDefEqProofs [hw0, hw1, hd0, hd1, hm, hml, hr, hll2, hok, hsh, hst, hc, spCloneCt, boxAt, bsfAtC, spHas, hh, hi]; rfl) ?_)
            | with_reducible refine wp_region (seg_eval (by simp -dsimp -implicitDefEqProofs [hw0, hw1, hd0, hd1, hm, hml, hr, hll2, hok, hsh, hst, hc, spCloneCt, boxAt, bsfAtC, spHas, hh, hi]; rfl) ?_)
            | with_reducible refine wp_drawsS (seg_eval (by simp -dsimp -implicitDefEqProofs [hw0, hw1, hd0, hd1, hm, hml, hr, hll2, hok, hsh, hst, hc, spCloneCt, boxAt, bsfAtC, spHas, hh, hi]; rfl) ?_)
            | with_reducible refine wp_draws (seg_eval (by simp -dsimp -implicitDefEqProofs [hw0, hw1, hd0, hd1, hm, hml, hr, hll2, hok, hsh, hst, hc, spCloneCt, boxAt, bsfAtC, spHas, hh, hi]; rfl) ?_)
            | with_reducible refine seg_fin ?_
            | with_reducible refine seg_pan ?_
            | with_reducible refine seg_both ?_ ?_
            | with_reducible refine seg_case (fun x h => ?_) (fun h => ?_)
            | with_reducible refine seg_gate (fun h => ?_) (fun h => ?_)
            | with_reducible refine seg_need ?_ ?_
            | with_reducible refine wp_assoc ?_ | with_reducible refine wp_skipS ?_ | with_reducible refine wp_retS ?_ | with_reducible refine wp_exitS ?_ | with_reducible refine wp_dropS (wp_eqT (by simp -dsimp -implicitDefEqProofs [hw0, hw1, hd0, hd1, hm, hml, hr, hll2, hok, hsh, hst, hc, spCloneCt, boxAt, bsfAtC, spHas, hh, hi]; rfl) ?_) | with_reducible refine wp_sealS (by simp -dsimp -implicitDefEqProofs [hw0, hw1, hd0, hd1, hm, hml, hr, hll2, hok, hsh, hst, hc, spCloneCt, boxAt, bsfAtC, spHas, hh, hi]; rfl) ?_ | with_reducible refine wp_seal (by simp -dsimp -implicitDefEqProofs [hw0, hw1, hd0, hd1, hm, hml, hr, hll2, hok, hsh, hst, hc, spCloneCt, boxAt, bsfAtC, spHas, hh, hi]; rfl) ?_ | with_reducible refine wp_closeS (by simp -dsimp -implicitDefEqProofs [hw0, hw1, hd0, hd1, hm, hml, hr, hll2, hok, hsh, hst, hc, spCloneCt, boxAt, bsfAtC, spHas, hh, hi]; rfl) ?_ | with_reducible refine wp_close (by simp -dsimp -implicitDefEqProofs [hw0, hw1, hd0, hd1, hm, hml, hr, hll2, hok, hsh, hst, hc, spCloneCt, boxAt, bsfAtC, spHas, hh, hi]; rfl) ?_ | with_reducible refine wp_conc_out ?_ | with_reducible refine wp_open_out ?_ | with_reducible refine wp_pack_out ?_ | with_reducible refine wp_blockS ?_ | with_reducible refine wp_skip' ?_ | with_reducible refine wp_ret' ?_ | with_reducible refine wp_exit' ?_ | with_reducible refine wp_drop (wp_eqT (by simp -dsimp -implicitDefEqProofs [hw0, hw1, hd0, hd1, hm, hml, hr, hll2, hok, hsh, hst, hc, spCloneCt, boxAt, bsfAtC, spHas, hh, hi]; rfl) ?_) | with_reducible refine wp_block' ?_
            | with_reducible refine wp_condVS (by simp -dsimp -implicitDefEqProofs [hw0, hw1, hd0, hd1, hm, hml, hr, hll2, hok, hsh, hst, hc, spCloneCt, boxAt, bsfAtC, spHas, hh, hi]; rfl) ?_
            | with_reducible refine wp_condV (by simp -dsimp -implicitDefEqProofs [hw0, hw1, hd0, hd1, hm, hml, hr, hll2, hok, hsh, hst, hc, spCloneCt, boxAt, bsfAtC, spHas, hh, hi]; rfl) ?_
            | with_reducible refine cond_t ?_ | with_reducible refine cond_f ?_ | with_reducible refine cond_v (fun h => ?_) (fun h => ?_)
            | with_reducible refine post_then ?_ | with_reducible refine post_thenE ?_ | with_reducible refine post_thenP ?_ | with_reducible refine post_blkP ?_ | with_reducible refine post_thenR ?_ | with_reducible refine post_blkN ?_ | with_reducible refine post_blkE ?_ | with_reducible refine post_blkF rfl ?_ | with_reducible refine post_blkR ?_
            | with_reducible refine seg_eval (by simp -dsimp -implicitDefEqProofs [hw0, hw1, hd0, hd1, hm, hml, hr, hll2, hok, hsh, hst, hc, spCloneCt, boxAt, bsfAtC, spHas, hh, hi]; rfl) ?_
        all_goals first
          | omega
          | exact hok
          | exact post_fin rfl rfl ⟨[3], [], rfl, rfl, rfl, rfl⟩
          | trace_state
end Go.Proofs.Ytbponegjfccgfaa.Am
