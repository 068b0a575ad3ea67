/-
  A MARK PUT INTO A FLUSH.
-/
import Derived.Test.YtbponegjfccgfaaFG
import Derived.Test.YtbponegjfccgfaaSCMk
import Derived.Test.YtbponegjfccgfaaSIMk
namespace Go.Proofs.Ytbponegjfccgfaa.Am
set_option linter.unusedSimpArgs false
set_option linter.unusedVariables false
open Go Go.Proofs
attribute [local irreducible] wpA
attribute [-simp] splice

theorem sort_of {α : Type} {key : α → Int} : ∀ {l : List α}, (∀ (i : Nat) (p m : α), l[i]? = some p → l[i + 1]? = some m → key p < key m) → SortK key l
  | [], _ => List.Pairwise.nil
  | [x], _ => List.pairwise_singleton _ _
  | x :: y :: l, h => by
    have h2 : SortK key (y :: l) := sort_of fun i p m hp hm => h (i + 1) p m (by simpa using hp) (by simpa using hm)
    have hxy : key x < key y := h 0 x y rfl rfl
    refine List.Pairwise.cons (fun z hz => ?_) h2
    rcases List.mem_cons.1 hz with rfl | hz
    · exact hxy
    · have := (List.pairwise_cons.1 h2).1 z hz
      omega
theorem marks_sort {s : Nat} {l : List Mk} (h : MarksF s l) : SortK keyMk l := sort_of fun i p m hp hm => (h (i + 1) m hm).2.2 (by omega) p (by simpa using hp)

noncomputable def putF (s : Nat) (l : List Mk) (m : Mk) : List Mk × Int :=
  if rightB s l = false then (l, 2) else if hasS s m.who.toNat = false then (l, 10) else if isK' keyMk m.who l = true then (l, 9) else if fitsB s m.past = false then (l, 2) else (insK keyMk m l, 0)

noncomputable def spPutF : Spec := spc (X := Int × List Mk × Mk) (fun p => ([.agg [.v (.int .u16 p.1), .fsl 17 (p.2.1.map avMk)], avMk p.2.2], []))
  (fun p => 0 ≤ p.1 ∧ p.1 < 65536 ∧ p.2.1.length ≤ 1000000 ∧ (∀ y ∈ p.2.1, okMk y) ∧ okMk p.2.2)
  (fun p => (.ret (.tup [.agg [.v (.int .u16 p.1), .fsl 17 ((putF p.1.toNat p.2.1 p.2.2).1.map avMk)], .v (.int .i64 (putF p.1.toNat p.2.1 p.2.2).2)]), []))
open Classical in
theorem putFAt (s : Int) (l : List Mk) (w : Int) (v : List Nat) : spPutF [.agg [.v (.int .u16 s), .fsl 17 (l.map avMk)], .agg (mc w v)] [] =
    if 0 ≤ s ∧ s < 65536 ∧ l.length ≤ 1000000 ∧ (∀ y ∈ l, okMk y) ∧ okMk ⟨w, v⟩ then some (.ret (.tup [.agg [.v (.int .u16 s), .fsl 17 ((putF s.toNat l ⟨w, v⟩).1.map avMk)], .v (.int .i64 (putF s.toNat l ⟨w, v⟩).2)]), []) else none :=
  spc_at (f := fun p : Int × List Mk × Mk => ([.agg [.v (.int .u16 p.1), .fsl 17 (p.2.1.map avMk)], avMk p.2.2], [])) (fun x y h => by
    simp only [Prod.mk.injEq, List.cons.injEq, and_true, AV.agg.injEq, AV.v.injEq, Value.int.injEq, true_and, AV.fsl.injEq] at h
    exact Prod.ext h.1.1 (Prod.ext (map_avMk h.1.2) (inj_avMk h.2))) (s, l, (⟨w, v⟩ : Mk))
open Classical in
theorem bsfAt (l : List Mk) (w : Int) (v : List Nat) : spBSFMk [.fsl 17 (l.map avMk), .agg (mc w v), .v (.func (.func 43) #[] #[])] [] =
    if SortK keyMk l ∧ l.length ≤ 100000000 ∧ (∀ y ∈ l, okMk y) ∧ okMk ⟨w, v⟩ then some (.ret (.tup [.v (.int .i64 (posK keyMk w l)), .v (.bool (isK' keyMk w l))]), []) else none :=
  spc_at (f := fun p : List Mk × Mk => ([.fsl 17 (p.1.map avMk), avMk p.2, .v (.func (.func 43) #[] #[])], [])) (fun x y h => by
    simp only [Prod.mk.injEq, List.cons.injEq, and_true, true_and, AV.fsl.injEq] at h
    exact Prod.ext (map_avMk h.1) (inj_avMk h.2)) (l, (⟨w, v⟩ : Mk))

theorem avMk_shaped {m : Mk} (_ : okMk m) : (avMk m).shaped = true := by simp [avMk, cMk, AV.shaped, mc_one]
set_option maxHeartbeats 8000000 in
theorem putF_ok : CallOk Try.prog 14 spPutF := by
  refine ok_14 (Env.put_ok [] (Env.put_ok [true] (Env.put_ok [true] (Env.put_ok [true] (Env.put_ok [true, true, true] (Env.put_ok [] (Env.none_ok _) has_ok) insMk_ok)
    (CallOk.borrow (g_45).enters fits_ok)) (CallOk.borrow (g_42).enters (bsfMk_ok ordMk_ok)))
    (CallOk.borrow (g_41).enters right_ok)) cloneMk_ok) spPutF (wb_spc ?_)
  rintro ⟨s, l, ⟨w, v⟩⟩ ⟨hs0, hs1, hll, hok, hm⟩
  simp only at hs0 hs1 hll hok hm ⊢
  obtain ⟨s, rfl⟩ := Int.eq_ofNat_of_zero_le hs0
  simp only [Int.toNat_natCast]
  have hsl : (s : Int) < 65536 := hs1
  have hll2 : l.length ≤ 100000000 := by omega
  have hsh : (l.map avMk).all AV.shaped = true := map_shaped fun x hx => avMk_shaped (hok x hx)
  obtain ⟨hw0, hw1, hv⟩ := id hm
  simp only at hw0 hw1 hv
  have hvl := hv.1
  unfold ac_14
  simp only [avMk, cMk]
  have eav : (fun m => AV.agg (cMk m)) = avMk := rfl
  cases hr : rightB s l
  · have hp : putF s l ⟨w, v⟩ = (l, 2) := by simp [putF, hr]
    rw [hp]
    repeat' first
        | with_reducible refine wp_regionS (seg_eval (by simp -dsimp -implicitDefEqProofs [zV_rest, hw0, hw1, hvl, hsl, hr, hll2, hok, hsh, spCloneMk, rightAt]; rfl) ?_)
        | with_reducible refine wp_region (seg_eval (by simp -dsimp -implicitDefEqProofs [zV_rest, hw0, hw1, hvl, hsl, hr, hll2, hok, hsh, spCloneMk, rightAt]; rfl) ?_)
        | with_reducible refine wp_drawsS (seg_eval (by simp -dsimp -implicitDefEqProofs [zV_rest, hw0, hw1, hvl, hsl, hr, hll2, hok, hsh, spCloneMk, rightAt]; rfl) ?_)
        | with_reducible refine wp_draws (seg_eval (by simp -dsimp -implicitDefEqProofs [zV_rest, hw0, hw1, hvl, hsl, hr, hll2, hok, hsh, spCloneMk, rightAt]; rfl) ?_)
        | with_reducible refine seg_fin ?_
        | with_reducible refine seg_pan ?_
        | with_reducible refine seg_both ?_ ?_
        | with_reducible refine seg_case (fun x h => ?_) (fun h => ?_)
        | with_reducible refine seg_gate (fun h => ?_) (fun h => ?_)
        | with_reducible refine seg_need ?_ ?_
        | with_reducible refine wp_assoc ?_ | with_reducible refine wp_skipS ?_ | with_reducible refine wp_retS ?_ | with_reducible refine wp_exitS ?_ | with_reducible refine wp_dropS (wp_eqT (by simp -dsimp -implicitDefEqProofs [zV_rest, hw0, hw1, hvl, hsl, hr, hll2, hok, hsh, spCloneMk, rightAt]; rfl) ?_) | with_reducible refine wp_sealS (by simp -dsimp -implicitDefEqProofs [zV_rest, hw0, hw1, hvl, hsl, hr, hll2, hok, hsh, spCloneMk, rightAt]; rfl) ?_ | with_reducible refine wp_seal (by simp -dsimp -implicitDefEqProofs [zV_rest, hw0, hw1, hvl, hsl, hr, hll2, hok, hsh, spCloneMk, rightAt]; rfl) ?_ | with_reducible refine wp_closeS (by simp -dsimp -implicitDefEqProofs [zV_rest, hw0, hw1, hvl, hsl, hr, hll2, hok, hsh, spCloneMk, rightAt]; rfl) ?_ | with_reducible refine wp_close (by simp -dsimp -implicitDefEqProofs [zV_rest, hw0, hw1, hvl, hsl, hr, hll2, hok, hsh, spCloneMk, rightAt]; rfl) ?_ | with_reducible refine wp_conc_out ?_ | with_reducible refine wp_open_out ?_ | with_reducible refine wp_pack_out ?_ | with_reducible refine wp_blockS ?_ | with_reducible refine wp_skip' ?_ | with_reducible refine wp_ret' ?_ | with_reducible refine wp_exit' ?_ | with_reducible refine wp_drop (wp_eqT (by simp -dsimp -implicitDefEqProofs [zV_rest, hw0, hw1, hvl, hsl, hr, hll2, hok, hsh, spCloneMk, rightAt]; rfl) ?_) | with_reducible refine wp_block' ?_
        | with_reducible refine wp_condVS (by simp -dsimp -implicitDefEqProofs [zV_rest, hw0, hw1, hvl, hsl, hr, hll2, hok, hsh, spCloneMk, rightAt]; rfl) ?_
        | with_reducible refine wp_condV (by simp -dsimp -implicitDefEqProofs [zV_rest, hw0, hw1, hvl, hsl, hr, hll2, hok, hsh, spCloneMk, rightAt]; rfl) ?_
        | with_reducible refine cond_t ?_ | with_reducible refine cond_f ?_ | with_reducible refine cond_v (fun h => ?_) (fun h => ?_)
        | with_reducible refine post_then ?_ | with_reducible refine post_thenE ?_ | with_reducible refine post_thenP ?_ | with_reducible refine post_blkP ?_ | with_reducible refine post_thenR ?_ | with_reducible refine post_blkN ?_ | with_reducible refine post_blkE ?_ | with_reducible refine post_blkF rfl ?_ | with_reducible refine post_blkR ?_
        | with_reducible refine seg_eval (by simp -dsimp -implicitDefEqProofs [zV_rest, hw0, hw1, hvl, hsl, hr, hll2, hok, hsh, spCloneMk, rightAt]; rfl) ?_
    all_goals first
      | omega
      | exact post_fin rfl rfl ⟨[3], [], rfl, rfl, rfl, rfl⟩
      | trace_state
  · have hst := marks_sort (right_iff.1 hr).2
    cases hh : hasS s w.toNat
    · have hp : putF s l ⟨w, v⟩ = (l, 10) := by simp [putF, hr, hh]
      rw [hp]
      repeat' first
          | with_reducible refine wp_regionS (seg_eval (by simp -dsimp -implicitDefEqProofs [zV_rest, hw0, hw1, hv, hvl, hsl, hr, hll2, hok, hsh, hst, hm, spCloneMk, rightAt, bsfAt, spHas, hh]; rfl) ?_)
          | with_reducible refine wp_region (seg_eval (by simp -dsimp -implicitDefEqProofs [zV_rest, hw0, hw1, hv, hvl, hsl, hr, hll2, hok, hsh, hst, hm, spCloneMk, rightAt, bsfAt, spHas, hh]; rfl) ?_)
          | with_reducible refine wp_drawsS (seg_eval (by simp -dsimp -implicitDefEqProofs [zV_rest, hw0, hw1, hv, hvl, hsl, hr, hll2, hok, hsh, hst, hm, spCloneMk, rightAt, bsfAt, spHas, hh]; rfl) ?_)
          | with_reducible refine wp_draws (seg_eval (by simp -dsimp -implicitDefEqProofs [zV_rest, hw0, hw1, hv, hvl, hsl, hr, hll2, hok, hsh, hst, hm, spCloneMk, rightAt, bsfAt, spHas, hh]; rfl) ?_)
          | with_reducible refine seg_fin ?_
          | with_reducible refine seg_pan ?_
          | with_reducible refine seg_both ?_ ?_
          | with_reducible refine seg_case (fun x h => ?_) (fun h => ?_)
          | with_reducible refine seg_gate (fun h => ?_) (fun h => ?_)
          | with_reducible refine seg_need ?_ ?_
          | with_reducible refine wp_assoc ?_ | with_reducible refine wp_skipS ?_ | with_reducible refine wp_retS ?_ | with_reducible refine wp_exitS ?_ | with_reducible refine wp_dropS (wp_eqT (by simp -dsimp -implicitDefEqProofs [zV_rest, hw0, hw1, hv, hvl, hsl, hr, hll2, hok, hsh, hst, hm, spCloneMk, rightAt, bsfAt, spHas, hh]; rfl) ?_) | with_reducible refine wp_sealS (by simp -dsimp -implicitDefEqProofs [zV_rest, hw0, hw1, hv, hvl, hsl, hr, hll2, hok, hsh, hst, hm, spCloneMk, rightAt, bsfAt, spHas, hh]; rfl) ?_ | with_reducible refine wp_seal (by simp -dsimp -implicitDefEqProofs [zV_rest, hw0, hw1, hv, hvl, hsl, hr, hll2, hok, hsh, hst, hm, spCloneMk, rightAt, bsfAt, spHas, hh]; rfl) ?_ | with_reducible refine wp_closeS (by simp -dsimp -implicitDefEqProofs [zV_rest, hw0, hw1, hv, hvl, hsl, hr, hll2, hok, hsh, hst, hm, spCloneMk, rightAt, bsfAt, spHas, hh]; rfl) ?_ | with_reducible refine wp_close (by simp -dsimp -implicitDefEqProofs [zV_rest, hw0, hw1, hv, hvl, hsl, hr, hll2, hok, hsh, hst, hm, spCloneMk, rightAt, bsfAt, spHas, hh]; rfl) ?_ | with_reducible refine wp_conc_out ?_ | with_reducible refine wp_open_out ?_ | with_reducible refine wp_pack_out ?_ | with_reducible refine wp_blockS ?_ | with_reducible refine wp_skip' ?_ | with_reducible refine wp_ret' ?_ | with_reducible refine wp_exit' ?_ | with_reducible refine wp_drop (wp_eqT (by simp -dsimp -implicitDefEqProofs [zV_rest, hw0, hw1, hv, hvl, hsl, hr, hll2, hok, hsh, hst, hm, spCloneMk, rightAt, bsfAt, spHas, hh]; rfl) ?_) | with_reducible refine wp_block' ?_
          | with_reducible refine wp_condVS (by simp -dsimp -implicitDefEqProofs [zV_rest, hw0, hw1, hv, hvl, hsl, hr, hll2, hok, hsh, hst, hm, spCloneMk, rightAt, bsfAt, spHas, hh]; rfl) ?_
          | with_reducible refine wp_condV (by simp -dsimp -implicitDefEqProofs [zV_rest, hw0, hw1, hv, hvl, hsl, hr, hll2, hok, hsh, hst, hm, spCloneMk, rightAt, bsfAt, spHas, hh]; rfl) ?_
          | with_reducible refine cond_t ?_ | with_reducible refine cond_f ?_ | with_reducible refine cond_v (fun h => ?_) (fun h => ?_)
          | with_reducible refine post_then ?_ | with_reducible refine post_thenE ?_ | with_reducible refine post_thenP ?_ | with_reducible refine post_blkP ?_ | with_reducible refine post_thenR ?_ | with_reducible refine post_blkN ?_ | with_reducible refine post_blkE ?_ | with_reducible refine post_blkF rfl ?_ | with_reducible refine post_blkR ?_
          | with_reducible refine seg_eval (by simp -dsimp -implicitDefEqProofs [zV_rest, hw0, hw1, hv, hvl, hsl, hr, hll2, hok, hsh, hst, hm, spCloneMk, rightAt, bsfAt, spHas, hh]; rfl) ?_
      all_goals first
        | omega
        | exact post_fin rfl rfl ⟨[3], [], rfl, rfl, rfl, rfl⟩
        | trace_state
    · cases hi : isK' keyMk w l
      · cases hf : fitsB s v
        · have hp : putF s l ⟨w, v⟩ = (l, 2) := by simp [putF, hr, hh, hi, hf]
          rw [hp]
          repeat' first
              | with_reducible refine wp_regionS (seg_eval (by simp -dsimp -implicitDefEqProofs [zV_rest, hw0, hw1, hv, hvl, hsl, hr, hll2, hok, hsh, hst, hm, spCloneMk, rightAt, bsfAt, spHas, hh, hi, hf, fitsAt]; rfl) ?_)
              | with_reducible refine wp_region (seg_eval (by simp -dsimp -implicitDefEqProofs [zV_rest, hw0, hw1, hv, hvl, hsl, hr, hll2, hok, hsh, hst, hm, spCloneMk, rightAt, bsfAt, spHas, hh, hi, hf, fitsAt]; rfl) ?_)
              | with_reducible refine wp_drawsS (seg_eval (by simp -dsimp -implicitDefEqProofs [zV_rest, hw0, hw1, hv, hvl, hsl, hr, hll2, hok, hsh, hst, hm, spCloneMk, rightAt, bsfAt, spHas, hh, hi, hf, fitsAt]; rfl) ?_)
              | with_reducible refine wp_draws (seg_eval (by simp -dsimp -implicitDefEqProofs [zV_rest, hw0, hw1, hv, hvl, hsl, hr, hll2, hok, hsh, hst, hm, spCloneMk, rightAt, bsfAt, spHas, hh, hi, hf, fitsAt]; rfl) ?_)
              | with_reducible refine seg_fin ?_
              | with_reducible refine seg_pan ?_
              | with_reducible refine seg_both ?_ ?_
              | with_reducible refine seg_case (fun x h => ?_) (fun h => ?_)
              | with_reducible refine seg_gate (fun h => ?_) (fun h => ?_)
              | with_reducible refine seg_need ?_ ?_
              | with_reducible refine wp_assoc ?_ | with_reducible refine wp_skipS ?_ | with_reducible refine wp_retS ?_ | with_reducible refine wp_exitS ?_ | with_reducible refine wp_dropS (wp_eqT (by simp -dsimp -implicitDefEqProofs [zV_rest, hw0, hw1, hv, hvl, hsl, hr, hll2, hok, hsh, hst, hm, spCloneMk, rightAt, bsfAt, spHas, hh, hi, hf, fitsAt]; rfl) ?_) | with_reducible refine wp_sealS (by simp -dsimp -implicitDefEqProofs [zV_rest, hw0, hw1, hv, hvl, hsl, hr, hll2, hok, hsh, hst, hm, spCloneMk, rightAt, bsfAt, spHas, hh, hi, hf, fitsAt]; rfl) ?_ | with_reducible refine wp_seal (by simp -dsimp -implicitDefEqProofs [zV_rest, hw0, hw1, hv, hvl, hsl, hr, hll2, hok, hsh, hst, hm, spCloneMk, rightAt, bsfAt, spHas, hh, hi, hf, fitsAt]; rfl) ?_ | with_reducible refine wp_closeS (by simp -dsimp -implicitDefEqProofs [zV_rest, hw0, hw1, hv, hvl, hsl, hr, hll2, hok, hsh, hst, hm, spCloneMk, rightAt, bsfAt, spHas, hh, hi, hf, fitsAt]; rfl) ?_ | with_reducible refine wp_close (by simp -dsimp -implicitDefEqProofs [zV_rest, hw0, hw1, hv, hvl, hsl, hr, hll2, hok, hsh, hst, hm, spCloneMk, rightAt, bsfAt, spHas, hh, hi, hf, fitsAt]; rfl) ?_ | with_reducible refine wp_conc_out ?_ | with_reducible refine wp_open_out ?_ | with_reducible refine wp_pack_out ?_ | with_reducible refine wp_blockS ?_ | with_reducible refine wp_skip' ?_ | with_reducible refine wp_ret' ?_ | with_reducible refine wp_exit' ?_ | with_reducible refine wp_drop (wp_eqT (by simp -dsimp -implicitDefEqProofs [zV_rest, hw0, hw1, hv, hvl, hsl, hr, hll2, hok, hsh, hst, hm, spCloneMk, rightAt, bsfAt, spHas, hh, hi, hf, fitsAt]; rfl) ?_) | with_reducible refine wp_block' ?_
              | with_reducible refine wp_condVS (by simp -dsimp -implicitDefEqProofs [zV_rest, hw0, hw1, hv, hvl, hsl, hr, hll2, hok, hsh, hst, hm, spCloneMk, rightAt, bsfAt, spHas, hh, hi, hf, fitsAt]; rfl) ?_
              | with_reducible refine wp_condV (by simp -dsimp -implicitDefEqProofs [zV_rest, hw0, hw1, hv, hvl, hsl, hr, hll2, hok, hsh, hst, hm, spCloneMk, rightAt, bsfAt, spHas, hh, hi, hf, fitsAt]; rfl) ?_
              | with_reducible refine cond_t ?_ | with_reducible refine cond_f ?_ | with_reducible refine cond_v (fun h => ?_) (fun h => ?_)
              | with_reducible refine post_then ?_ | with_reducible refine post_thenE ?_ | with_reducible refine post_thenP ?_ | with_reducible refine post_blkP ?_ | with_reducible refine post_thenR ?_ | with_reducible refine post_blkN ?_ | with_reducible refine post_blkE ?_ | with_reducible refine post_blkF rfl ?_ | with_reducible refine post_blkR ?_
              | with_reducible refine seg_eval (by simp -dsimp -implicitDefEqProofs [zV_rest, hw0, hw1, hv, hvl, hsl, hr, hll2, hok, hsh, hst, hm, spCloneMk, rightAt, bsfAt, spHas, hh, hi, hf, fitsAt]; rfl) ?_
          all_goals first
            | omega
            | exact post_fin rfl rfl ⟨[3], [], rfl, rfl, rfl, rfl⟩
            | trace_state
        · have hp : putF s l ⟨w, v⟩ = (insK keyMk ⟨w, v⟩ l, 0) := by simp [putF, hr, hh, hi, hf]
          rw [hp]
          have hpl := posK_le (key := keyMk) w l
          have hmc : (AV.agg (mc w v)).shaped = true := by simp [AV.shaped, mc_one]
          repeat' first
              | with_reducible refine wp_regionS (seg_eval (by simp -dsimp -implicitDefEqProofs [zV_rest, hw0, hw1, hv, hvl, hsl, hr, hll2, hok, hsh, hst, hm, spCloneMk, rightAt, bsfAt, spHas, hh, hi, hf, fitsAt, spInsMk, hpl, hmc]; rfl) ?_)
              | with_reducible refine wp_region (seg_eval (by simp -dsimp -implicitDefEqProofs [zV_rest, hw0, hw1, hv, hvl, hsl, hr, hll2, hok, hsh, hst, hm, spCloneMk, rightAt, bsfAt, spHas, hh, hi, hf, fitsAt, spInsMk, hpl, hmc]; rfl) ?_)
              | with_reducible refine wp_drawsS (seg_eval (by simp -dsimp -implicitDefEqProofs [zV_rest, hw0, hw1, hv, hvl, hsl, hr, hll2, hok, hsh, hst, hm, spCloneMk, rightAt, bsfAt, spHas, hh, hi, hf, fitsAt, spInsMk, hpl, hmc]; rfl) ?_)
              | with_reducible refine wp_draws (seg_eval (by simp -dsimp -implicitDefEqProofs [zV_rest, hw0, hw1, hv, hvl, hsl, hr, hll2, hok, hsh, hst, hm, spCloneMk, rightAt, bsfAt, spHas, hh, hi, hf, fitsAt, spInsMk, hpl, hmc]; rfl) ?_)
              | with_reducible refine seg_fin ?_
              | with_reducible refine seg_pan ?_
              | with_reducible refine seg_both ?_ ?_
              | with_reducible refine seg_case (fun x h => ?_) (fun h => ?_)
              | with_reducible refine seg_gate (fun h => ?_) (fun h => ?_)
              | with_reducible refine seg_need ?_ ?_
              | with_reducible refine wp_assoc ?_ | with_reducible refine wp_skipS ?_ | with_reducible refine wp_retS ?_ | with_reducible refine wp_exitS ?_ | with_reducible refine wp_dropS (wp_eqT (by simp -dsimp -implicitDefEqProofs [zV_rest, hw0, hw1, hv, hvl, hsl, hr, hll2, hok, hsh, hst, hm, spCloneMk, rightAt, bsfAt, spHas, hh, hi, hf, fitsAt, spInsMk, hpl, hmc]; rfl) ?_) | with_reducible refine wp_sealS (by simp -dsimp -implicitDefEqProofs [zV_rest, hw0, hw1, hv, hvl, hsl, hr, hll2, hok, hsh, hst, hm, spCloneMk, rightAt, bsfAt, spHas, hh, hi, hf, fitsAt, spInsMk, hpl, hmc]; rfl) ?_ | with_reducible refine wp_seal (by simp -dsimp -implicitDefEqProofs [zV_rest, hw0, hw1, hv, hvl, hsl, hr, hll2, hok, hsh, hst, hm, spCloneMk, rightAt, bsfAt, spHas, hh, hi, hf, fitsAt, spInsMk, hpl, hmc]; rfl) ?_ | with_reducible refine wp_closeS (by simp -dsimp -implicitDefEqProofs [zV_rest, hw0, hw1, hv, hvl, hsl, hr, hll2, hok, hsh, hst, hm, spCloneMk, rightAt, bsfAt, spHas, hh, hi, hf, fitsAt, spInsMk, hpl, hmc]; rfl) ?_ | with_reducible refine wp_close (by simp -dsimp -implicitDefEqProofs [zV_rest, hw0, hw1, hv, hvl, hsl, hr, hll2, hok, hsh, hst, hm, spCloneMk, rightAt, bsfAt, spHas, hh, hi, hf, fitsAt, spInsMk, hpl, hmc]; rfl) ?_ | with_reducible refine wp_conc_out ?_ | with_reducible refine wp_open_out ?_ | with_reducible refine wp_pack_out ?_ | with_reducible refine wp_blockS ?_ | with_reducible refine wp_skip' ?_ | with_reducible refine wp_ret' ?_ | with_reducible refine wp_exit' ?_ | with_reducible refine wp_drop (wp_eqT (by simp -dsimp -implicitDefEqProofs [zV_rest, hw0, hw1, hv, hvl, hsl, hr, hll2, hok, hsh, hst, hm, spCloneMk, rightAt, bsfAt, spHas, hh, hi, hf, fitsAt, spInsMk, hpl, hmc]; rfl) ?_) | with_reducible refine wp_block' ?_
              | with_reducible refine wp_condVS (by simp -dsimp -implicitDefEqProofs [zV_rest, hw0, hw1, hv, hvl, hsl, hr, hll2, hok, hsh, hst, hm, spCloneMk, rightAt, bsfAt, spHas, hh, hi, hf, fitsAt, spInsMk, hpl, hmc]; rfl) ?_
              | with_reducible refine wp_condV (by simp -dsimp -implicitDefEqProofs [zV_rest, hw0, hw1, hv, hvl, hsl, hr, hll2, hok, hsh, hst, hm, spCloneMk, rightAt, bsfAt, spHas, hh, hi, hf, fitsAt, spInsMk, hpl, hmc]; rfl) ?_
              | with_reducible refine cond_t ?_ | with_reducible refine cond_f ?_ | with_reducible refine cond_v (fun h => ?_) (fun h => ?_)
              | with_reducible refine post_then ?_ | with_reducible refine post_thenE ?_ | with_reducible refine post_thenP ?_ | with_reducible refine post_blkP ?_ | with_reducible refine post_thenR ?_ | with_reducible refine post_blkN ?_ | with_reducible refine post_blkE ?_ | with_reducible refine post_blkF rfl ?_ | with_reducible refine post_blkR ?_
              | with_reducible refine seg_eval (by simp -dsimp -implicitDefEqProofs [zV_rest, hw0, hw1, hv, hvl, hsl, hr, hll2, hok, hsh, hst, hm, spCloneMk, rightAt, bsfAt, spHas, hh, hi, hf, fitsAt, spInsMk, hpl, hmc]; rfl) ?_
          all_goals first
            | omega
            | (have him : (insK keyMk ⟨w, v⟩ l).map avMk = (l.map avMk).take (posK keyMk w l) ++ AV.agg (mc w v) :: (l.map avMk).drop (posK keyMk w l) := by simp [insK, keyMk, avMk, cMk]
               simp only [him]
               exact post_fin rfl rfl ⟨[5], [], rfl, rfl, rfl, rfl⟩)
            | trace_state
      · have hp : putF s l ⟨w, v⟩ = (l, 9) := by simp [putF, hr, hh, hi]
        rw [hp]
        repeat' first
            | with_reducible refine wp_regionS (seg_eval (by simp -dsimp -implicitDefEqProofs [zV_rest, hw0, hw1, hv, hvl, hsl, hr, hll2, hok, hsh, hst, hm, spCloneMk, rightAt, bsfAt, spHas, hh, hi]; rfl) ?_)
            | with_reducible refine wp_region (seg_eval (by simp -dsimp -implicitDefEqProofs [zV_rest, hw0, hw1, hv, hvl, hsl, hr, hll2, hok, hsh, hst, hm, spCloneMk, rightAt, bsfAt, spHas, hh, hi]; rfl) ?_)
            | with_reducible refine wp_drawsS (seg_eval (by simp -dsimp -implicitDefEqProofs [zV_rest, hw0, hw1, hv, hvl, hsl, hr, hll2, hok, hsh, hst, hm, spCloneMk, rightAt, bsfAt, spHas, hh, hi]; rfl) ?_)
            | with_reducible refine wp_draws (seg_eval (by simp -dsimp -implicitDefEqProofs [zV_rest, hw0, hw1, hv, hvl, hsl, hr, hll2, hok, hsh, hst, hm, spCloneMk, rightAt, bsfAt, spHas, hh, hi]; rfl) ?_)
            | with_reducible refine seg_fin ?_
            | with_reducible refine seg_pan ?_
            | with_reducible refine seg_both ?_ ?_
            | with_reducible refine seg_case (fun x h => ?_) (fun h => ?_)
            | with_reducible refine seg_gate (fun h => ?_) (fun h => ?_)
            | with_reducible refine seg_need ?_ ?_
            | with_reducible refine wp_assoc ?_ | with_reducible refine wp_skipS ?_ | with_reducible refine wp_retS ?_ | with_reducible refine wp_exitS ?_ | with_reducible refine wp_dropS (wp_eqT (by simp -dsimp -implicitDefEqProofs [zV_rest, hw0, hw1, hv, hvl, hsl, hr, hll2, hok, hsh, hst, hm, spCloneMk, rightAt, bsfAt, spHas, hh, hi]; rfl) ?_) | with_reducible refine wp_sealS (by simp -dsimp -implicitDefEqProofs [zV_rest, hw0, hw1, hv, hvl, hsl, hr, hll2, hok, hsh, hst, hm, spCloneMk, rightAt, bsfAt, spHas, hh, hi]; rfl) ?_ | with_reducible refine wp_seal (by simp -dsimp -implicitDefEqProofs [zV_rest, hw0, hw1, hv, hvl, hsl, hr, hll2, hok, hsh, hst, hm, spCloneMk, rightAt, bsfAt, spHas, hh, hi]; rfl) ?_ | with_reducible refine wp_closeS (by simp -dsimp -implicitDefEqProofs [zV_rest, hw0, hw1, hv, hvl, hsl, hr, hll2, hok, hsh, hst, hm, spCloneMk, rightAt, bsfAt, spHas, hh, hi]; rfl) ?_ | with_reducible refine wp_close (by simp -dsimp -implicitDefEqProofs [zV_rest, hw0, hw1, hv, hvl, hsl, hr, hll2, hok, hsh, hst, hm, spCloneMk, rightAt, bsfAt, spHas, hh, hi]; rfl) ?_ | with_reducible refine wp_conc_out ?_ | with_reducible refine wp_open_out ?_ | with_reducible refine wp_pack_out ?_ | with_reducible refine wp_blockS ?_ | with_reducible refine wp_skip' ?_ | with_reducible refine wp_ret' ?_ | with_reducible refine wp_exit' ?_ | with_reducible refine wp_drop (wp_eqT (by simp -dsimp -implicitDefEqProofs [zV_rest, hw0, hw1, hv, hvl, hsl, hr, hll2, hok, hsh, hst, hm, spCloneMk, rightAt, bsfAt, spHas, hh, hi]; rfl) ?_) | with_reducible refine wp_block' ?_
            | with_reducible refine wp_condVS (by simp -dsimp -implicitDefEqProofs [zV_rest, hw0, hw1, hv, hvl, hsl, hr, hll2, hok, hsh, hst, hm, spCloneMk, rightAt, bsfAt, spHas, hh, hi]; rfl) ?_
            | with_reducible refine wp_condV (by simp -dsimp -implicitDefEqProofs [zV_rest, hw0, hw1, hv, hvl, hsl, hr, hll2, hok, hsh, hst, hm, spCloneMk, rightAt, bsfAt, spHas, hh, hi]; rfl) ?_
            | with_reducible refine cond_t ?_ | with_reducible refine cond_f ?_ | with_reducible refine cond_v (fun h => ?_) (fun h => ?_)
            | with_reducible refine post_then ?_ | with_reducible refine post_thenE ?_ | with_reducible refine post_thenP ?_ | with_reducible refine post_blkP ?_ | with_reducible refine post_thenR ?_ | with_reducible refine post_blkN ?_ | with_reducible refine post_blkE ?_ | with_reducible refine post_blkF rfl ?_ | with_reducible refine post_blkR ?_
            | with_reducible refine seg_eval (by simp -dsimp -implicitDefEqProofs [zV_rest, hw0, hw1, hv, hvl, hsl, hr, hll2, hok, hsh, hst, hm, spCloneMk, rightAt, bsfAt, spHas, hh, hi]; rfl) ?_
        all_goals first
          | omega
          | exact post_fin rfl rfl ⟨[3], [], rfl, rfl, rfl, rfl⟩
          | trace_state
end Go.Proofs.Ytbponegjfccgfaa.Am
