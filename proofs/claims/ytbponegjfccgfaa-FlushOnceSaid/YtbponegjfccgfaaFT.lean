/-
  WHAT ALL ARE TO KNOW, AND WHETHER A VIEW IS OVER.
-/
import Derived.Test.YtbponegjfccgfaaFR
import Derived.Test.YtbponegjfccgfaaCJ
namespace Go.Proofs.Ytbponegjfccgfaa.Am
set_option linter.unusedSimpArgs false
set_option linter.unusedVariables false
open Go Go.Proofs
attribute [local irreducible] wpA
attribute [-simp] splice

/-- What a mark's own flush adds. -/
def bumpV (m : Mk) : List Nat := m.past.set m.who.toNat (m.past.getD m.who.toNat 0 + 1)
def foldT (l : List Mk) : List Nat := l.foldl (fun v m => joinV v (bumpV m)) zV
theorem foldT_nil : foldT [] = zV := rfl
theorem foldT_snoc (l : List Mk) (m : Mk) : foldT (l ++ [m]) = joinV (foldT l) (bumpV m) := by simp [foldT]
theorem okV_zV : okV zV := ⟨zV_length, fun n hn => by simp [zV] at hn; omega⟩
theorem okV_bump {s : Nat} {m : Mk} (h : okMk m) (hf : FitsV s m.past) : okV (bumpV m) := by
  refine ⟨by simp [bumpV, h.2.2.1], fun n hn => ?_⟩
  obtain ⟨k, hk⟩ := List.mem_iff_getElem?.1 hn
  unfold bumpV at hk
  rw [List.getElem?_set] at hk
  split at hk
  · split at hk
    · cases hk
      rename_i h1 h2
      have : m.past.getD m.who.toNat 0 < 1000 := by
        rw [List.getD_eq_getElem?_getD, List.getElem?_eq_getElem (by omega)]
        exact (hf m.who.toNat _ (List.getElem?_eq_getElem (by omega))).1
      omega
    · cases hk
  · exact okV_at h.2.2 hk
theorem okV_foldT {s : Nat} : ∀ {l : List Mk} {z : List Nat}, okV z → (∀ m ∈ l, okMk m ∧ FitsV s m.past) → okV (l.foldl (fun v m => joinV v (bumpV m)) z)
  | [], z, hz, _ => hz
  | m :: l, z, hz, h => okV_foldT (l := l) (z := joinV z (bumpV m)) (okV_join hz (okV_bump (h m (by simp)).1 (h m (by simp)).2)) fun x hx => h x (by simp [hx])
noncomputable def targetF (s : Nat) (l : List Mk) : List Nat × Bool := if rightB s l = true ∧ sizeS s ≤ l.length then (foldT l, true) else (zV, false)

noncomputable def spTarget : Spec := spc (X := Int × List Mk) (fun p => ([.agg [.v (.int .u16 p.1), .fsl 17 (p.2.map avMk)]], [])) (fun p => 0 ≤ p.1 ∧ p.1 < 65536 ∧ p.2.length ≤ 100000000 ∧ ∀ y ∈ p.2, okMk y)
  (fun p => (.ret (.tup [.agg (vc (targetF p.1.toNat p.2).1), .v (.bool (targetF p.1.toNat p.2).2)]), []))
open Classical in
theorem targetAt (s : Int) (l : List Mk) : spTarget [.agg [.v (.int .u16 s), .fsl 17 (l.map avMk)]] [] = if 0 ≤ s ∧ s < 65536 ∧ l.length ≤ 100000000 ∧ (∀ y ∈ l, okMk y) then some (.ret (.tup [.agg (vc (targetF s.toNat l).1), .v (.bool (targetF s.toNat l).2)]), []) else none :=
  spc_at (f := fun p : Int × List Mk => ([.agg [.v (.int .u16 p.1), .fsl 17 (p.2.map avMk)]], [])) (fun x y h => by
    simp only [Prod.mk.injEq, List.cons.injEq, and_true, AV.agg.injEq, AV.v.injEq, Value.int.injEq, true_and, AV.fsl.injEq] at h
    exact Prod.ext h.1 (map_avMk h.2)) (s, l)

set_option maxHeartbeats 16000000 in
theorem target_ok : CallOk Try.prog 17 spTarget := by
  refine ok_17 (Env.put_ok [] (Env.put_ok [] (Env.put_ok [] (Env.none_ok _) size_ok) right_ok) join_ok) spTarget (wb_spc ?_)
  rintro ⟨s, l⟩ ⟨hs0, hs1, hll, hok⟩
  simp only at hs0 hs1 hll hok ⊢
  obtain ⟨s, rfl⟩ := Int.eq_ofNat_of_zero_le hs0
  simp only [Int.toNat_natCast]
  have hsl : (s : Int) < 65536 := hs1
  have hse := size_le s
  unfold ac_17
  cases hr : rightB s l
  · have ht : targetF s l = (zV, false) := by simp [targetF, hr]
    rw [ht]
    repeat' first
        | with_reducible refine wp_regionS (seg_eval (by simp -dsimp -implicitDefEqProofs [zV_rest, hsl, hr, hll, rightAt, spSize]; rfl) ?_)
        | with_reducible refine wp_region (seg_eval (by simp -dsimp -implicitDefEqProofs [zV_rest, hsl, hr, hll, rightAt, spSize]; rfl) ?_)
        | with_reducible refine wp_drawsS (seg_eval (by simp -dsimp -implicitDefEqProofs [zV_rest, hsl, hr, hll, rightAt, spSize]; rfl) ?_)
        | with_reducible refine wp_draws (seg_eval (by simp -dsimp -implicitDefEqProofs [zV_rest, hsl, hr, hll, rightAt, spSize]; rfl) ?_)
        | with_reducible refine seg_fin ?_
        | with_reducible refine seg_pan ?_
        | with_reducible refine seg_both ?_ ?_
        | with_reducible refine seg_case (fun x h => ?_) (fun h => ?_)
        | with_reducible refine seg_gate (fun h => ?_) (fun h => ?_)
        | with_reducible refine seg_need ?_ ?_
        | with_reducible refine wp_assoc ?_ | with_reducible refine wp_skipS ?_ | with_reducible refine wp_retS ?_ | with_reducible refine wp_exitS ?_ | with_reducible refine wp_dropS (wp_eqT (by simp -dsimp -implicitDefEqProofs [zV_rest, hsl, hr, hll, rightAt, spSize]; rfl) ?_) | with_reducible refine wp_sealS (by simp -dsimp -implicitDefEqProofs [zV_rest, hsl, hr, hll, rightAt, spSize]; rfl) ?_ | with_reducible refine wp_seal (by simp -dsimp -implicitDefEqProofs [zV_rest, hsl, hr, hll, rightAt, spSize]; rfl) ?_ | with_reducible refine wp_closeS (by simp -dsimp -implicitDefEqProofs [zV_rest, hsl, hr, hll, rightAt, spSize]; rfl) ?_ | with_reducible refine wp_close (by simp -dsimp -implicitDefEqProofs [zV_rest, hsl, hr, hll, rightAt, spSize]; rfl) ?_ | with_reducible refine wp_conc_out ?_ | with_reducible refine wp_open_out ?_ | with_reducible refine wp_pack_out ?_ | with_reducible refine wp_blockS ?_ | with_reducible refine wp_skip' ?_ | with_reducible refine wp_ret' ?_ | with_reducible refine wp_exit' ?_ | with_reducible refine wp_drop (wp_eqT (by simp -dsimp -implicitDefEqProofs [zV_rest, hsl, hr, hll, rightAt, spSize]; rfl) ?_) | with_reducible refine wp_block' ?_
        | with_reducible refine wp_condVS (by simp -dsimp -implicitDefEqProofs [zV_rest, hsl, hr, hll, rightAt, spSize]; rfl) ?_
        | with_reducible refine wp_condV (by simp -dsimp -implicitDefEqProofs [zV_rest, hsl, hr, hll, rightAt, spSize]; rfl) ?_
        | with_reducible refine cond_t ?_ | with_reducible refine cond_f ?_ | with_reducible refine cond_v (fun h => ?_) (fun h => ?_)
        | with_reducible refine post_then ?_ | with_reducible refine post_thenE ?_ | with_reducible refine post_thenP ?_ | with_reducible refine post_blkP ?_ | with_reducible refine post_thenR ?_ | with_reducible refine post_blkN ?_ | with_reducible refine post_blkE ?_ | with_reducible refine post_blkF rfl ?_ | with_reducible refine post_blkR ?_
        | with_reducible refine seg_eval (by simp -dsimp -implicitDefEqProofs [zV_rest, hsl, hr, hll, rightAt, spSize]; rfl) ?_
    all_goals first
      | omega
      | exact hok
      | exact post_fin rfl rfl ⟨[], [], rfl, rfl, rfl, rfl⟩
      | trace_state
  · have hR := right_iff.1 hr
    have hF : ∀ m ∈ l, okMk m ∧ FitsV s m.past := fun m hm => by
      obtain ⟨k, hk⟩ := List.mem_iff_getElem?.1 hm
      exact ⟨hok m hm, (hR.2 k m hk).2.1⟩
    by_cases hn : l.length < sizeS s
    · have ht : targetF s l = (zV, false) := by simp [targetF, hr]; omega
      have c1 : decide (l.length < sizeS s) = true := by simp [hn]
      rw [ht]
      repeat' first
          | with_reducible refine wp_regionS (seg_eval (by simp -dsimp -implicitDefEqProofs [zV_rest, hsl, hr, hll, rightAt, spSize, c1]; rfl) ?_)
          | with_reducible refine wp_region (seg_eval (by simp -dsimp -implicitDefEqProofs [zV_rest, hsl, hr, hll, rightAt, spSize, c1]; rfl) ?_)
          | with_reducible refine wp_drawsS (seg_eval (by simp -dsimp -implicitDefEqProofs [zV_rest, hsl, hr, hll, rightAt, spSize, c1]; rfl) ?_)
          | with_reducible refine wp_draws (seg_eval (by simp -dsimp -implicitDefEqProofs [zV_rest, hsl, hr, hll, rightAt, spSize, c1]; rfl) ?_)
          | with_reducible refine seg_fin ?_
          | with_reducible refine seg_pan ?_
          | with_reducible refine seg_both ?_ ?_
          | with_reducible refine seg_case (fun x h => ?_) (fun h => ?_)
          | with_reducible refine seg_gate (fun h => ?_) (fun h => ?_)
          | with_reducible refine seg_need ?_ ?_
          | with_reducible refine wp_assoc ?_ | with_reducible refine wp_skipS ?_ | with_reducible refine wp_retS ?_ | with_reducible refine wp_exitS ?_ | with_reducible refine wp_dropS (wp_eqT (by simp -dsimp -implicitDefEqProofs [zV_rest, hsl, hr, hll, rightAt, spSize, c1]; rfl) ?_) | with_reducible refine wp_sealS (by simp -dsimp -implicitDefEqProofs [zV_rest, hsl, hr, hll, rightAt, spSize, c1]; rfl) ?_ | with_reducible refine wp_seal (by simp -dsimp -implicitDefEqProofs [zV_rest, hsl, hr, hll, rightAt, spSize, c1]; rfl) ?_ | with_reducible refine wp_closeS (by simp -dsimp -implicitDefEqProofs [zV_rest, hsl, hr, hll, rightAt, spSize, c1]; rfl) ?_ | with_reducible refine wp_close (by simp -dsimp -implicitDefEqProofs [zV_rest, hsl, hr, hll, rightAt, spSize, c1]; rfl) ?_ | with_reducible refine wp_conc_out ?_ | with_reducible refine wp_open_out ?_ | with_reducible refine wp_pack_out ?_ | with_reducible refine wp_blockS ?_ | with_reducible refine wp_skip' ?_ | with_reducible refine wp_ret' ?_ | with_reducible refine wp_exit' ?_ | with_reducible refine wp_drop (wp_eqT (by simp -dsimp -implicitDefEqProofs [zV_rest, hsl, hr, hll, rightAt, spSize, c1]; rfl) ?_) | with_reducible refine wp_block' ?_
          | with_reducible refine wp_condVS (by simp -dsimp -implicitDefEqProofs [zV_rest, hsl, hr, hll, rightAt, spSize, c1]; rfl) ?_
          | with_reducible refine wp_condV (by simp -dsimp -implicitDefEqProofs [zV_rest, hsl, hr, hll, rightAt, spSize, c1]; rfl) ?_
          | with_reducible refine cond_t ?_ | with_reducible refine cond_f ?_ | with_reducible refine cond_v (fun h => ?_) (fun h => ?_)
          | with_reducible refine post_then ?_ | with_reducible refine post_thenE ?_ | with_reducible refine post_thenP ?_ | with_reducible refine post_blkP ?_ | with_reducible refine post_thenR ?_ | with_reducible refine post_blkN ?_ | with_reducible refine post_blkE ?_ | with_reducible refine post_blkF rfl ?_ | with_reducible refine post_blkR ?_
          | with_reducible refine seg_eval (by simp -dsimp -implicitDefEqProofs [zV_rest, hsl, hr, hll, rightAt, spSize, c1]; rfl) ?_
      all_goals first
        | omega
        | exact hok
        | exact post_fin rfl rfl ⟨[], [], rfl, rfl, rfl, rfl⟩
        | trace_state
    · have ht : targetF s l = (foldT l, true) := by simp [targetF, hr]; omega
      have c1 : decide (l.length < sizeS s) = false := by simp; omega
      rw [ht]
      repeat' first
          | with_reducible refine wp_regionS (seg_eval (by simp -dsimp -implicitDefEqProofs [zV_rest, hsl, hr, hll, rightAt, spSize, c1]; rfl) ?_)
          | with_reducible refine wp_region (seg_eval (by simp -dsimp -implicitDefEqProofs [zV_rest, hsl, hr, hll, rightAt, spSize, c1]; rfl) ?_)
          | with_reducible refine wp_drawsS (seg_eval (by simp -dsimp -implicitDefEqProofs [zV_rest, hsl, hr, hll, rightAt, spSize, c1]; rfl) ?_)
          | with_reducible refine wp_draws (seg_eval (by simp -dsimp -implicitDefEqProofs [zV_rest, hsl, hr, hll, rightAt, spSize, c1]; rfl) ?_)
          | with_reducible refine seg_fin ?_
          | with_reducible refine seg_pan ?_
          | with_reducible refine seg_both ?_ ?_
          | with_reducible refine seg_case (fun x h => ?_) (fun h => ?_)
          | with_reducible refine seg_gate (fun h => ?_) (fun h => ?_)
          | with_reducible refine seg_need ?_ ?_
          | with_reducible refine wp_assoc ?_ | with_reducible refine wp_skipS ?_ | with_reducible refine wp_retS ?_ | with_reducible refine wp_exitS ?_ | with_reducible refine wp_dropS (wp_eqT (by simp -dsimp -implicitDefEqProofs [zV_rest, hsl, hr, hll, rightAt, spSize, c1]; rfl) ?_) | with_reducible refine wp_sealS (by simp -dsimp -implicitDefEqProofs [zV_rest, hsl, hr, hll, rightAt, spSize, c1]; rfl) ?_ | with_reducible refine wp_seal (by simp -dsimp -implicitDefEqProofs [zV_rest, hsl, hr, hll, rightAt, spSize, c1]; rfl) ?_ | with_reducible refine wp_closeS (by simp -dsimp -implicitDefEqProofs [zV_rest, hsl, hr, hll, rightAt, spSize, c1]; rfl) ?_ | with_reducible refine wp_close (by simp -dsimp -implicitDefEqProofs [zV_rest, hsl, hr, hll, rightAt, spSize, c1]; rfl) ?_ | with_reducible refine wp_conc_out ?_ | with_reducible refine wp_open_out ?_ | with_reducible refine wp_pack_out ?_ | with_reducible refine wp_blockS ?_ | with_reducible refine wp_skip' ?_ | with_reducible refine wp_ret' ?_ | with_reducible refine wp_exit' ?_ | with_reducible refine wp_drop (wp_eqT (by simp -dsimp -implicitDefEqProofs [zV_rest, hsl, hr, hll, rightAt, spSize, c1]; rfl) ?_) | with_reducible refine wp_block' ?_
          | with_reducible refine wp_condVS (by simp -dsimp -implicitDefEqProofs [zV_rest, hsl, hr, hll, rightAt, spSize, c1]; rfl) ?_
          | with_reducible refine wp_condV (by simp -dsimp -implicitDefEqProofs [zV_rest, hsl, hr, hll, rightAt, spSize, c1]; rfl) ?_
          | with_reducible refine cond_t ?_ | with_reducible refine cond_f ?_ | with_reducible refine cond_v (fun h => ?_) (fun h => ?_)
          | with_reducible refine post_then ?_ | with_reducible refine post_thenE ?_ | with_reducible refine post_thenP ?_ | with_reducible refine post_blkP ?_ | with_reducible refine post_thenR ?_ | with_reducible refine post_blkN ?_ | with_reducible refine post_blkE ?_ | with_reducible refine post_blkF rfl ?_ | with_reducible refine post_blkR ?_
          | with_reducible refine seg_eval (by simp -dsimp -implicitDefEqProofs [zV_rest, hsl, hr, hll, rightAt, spSize, c1]; rfl) ?_
      all_goals first
        | omega
        | exact hok
        | skip
      refine wp_loop' (fun j ts mm => ∃ i : Nat, i + j = l.length ∧
        ts = [(2, .ptr 0 0 0), (4, .ptr 1 0 0), (21, .fsl 17 (l.map avMk)), (22, .v (.int .i64 l.length)), (23, .v (.int .i64 i))] ∧
        mm = [.var (vc zV), .var (vc (foldT (l.take i)))]) l.length ?_ ?_
      · exact ⟨[], [1, 2], rfl, rfl, 0, by omega, by simp, by simp [foldT_nil]⟩
      · rintro j ts mm ⟨i, hi, rfl, rfl⟩
        have hoF : okV (foldT (l.take i)) := okV_foldT okV_zV fun m hm => hF m (List.mem_of_mem_take hm)
        have hfl := hoF.1
        by_cases hlt : i < l.length
        · obtain ⟨x, hx⟩ : ∃ x, l[i]? = some x := ⟨_, List.getElem?_eq_getElem (by omega)⟩
          have hd : decide ((i : Int) < (l.length : Int)) = true := by rw [decide_eq_true_eq]; omega
          have hd2 : decide (i < l.length) = true := by simp [hlt]
          have h64 : IntKind.wrap .i64 ((i : Int) + 1) = ((i + 1 : Nat) : Int) := by rw [IntWalk.i64_in _ (by omega)]; rfl
          have hxo := (hF x (List.mem_of_getElem? hx)).1
          have hxf := (hF x (List.mem_of_getElem? hx)).2
          have hxm := (hR.2 i x hx).1
          have hob := okV_bump hxo hxf
          have hst : foldT (l.take (i + 1)) = joinV (foldT (l.take i)) (bumpV x) := by rw [take_more hx, foldT_snoc]
          obtain ⟨w, v⟩ := x
          obtain ⟨hw0, hw1, hv⟩ := hxo
          simp only at hw0 hw1 hv hxm hxf
          obtain ⟨w, rfl⟩ := Int.eq_ofNat_of_zero_le hw0
          simp only [Int.toNat_natCast] at hxm
          have hvl := hv.1
          have hw16 := has_lt (by omega) hxm
          obtain ⟨y, hy⟩ : ∃ y, v[w]? = some y := ⟨_, List.getElem?_eq_getElem (by omega)⟩
          have hy1 := (hxf w y hy).1
          have hbv : bumpV ⟨(w : Int), v⟩ = v.set w (y + 1) := by
            simp only [bumpV, Int.toNat_natCast, List.getD_eq_getElem?_getD, hy, Option.getD_some]
          rw [hbv] at hob hst
          have hbl := hob.1
          have h16 : IntKind.wrap .u16 ((y : Int) + 1) = (y : Int) + 1 := IntWalk.u16_in _ (by omega)
          have hma := mc_at (k := (w : Int)) hy
          have hmp : splice (mc (w : Int) v) (1 + w) [.v (.int .u16 ((y : Int) + 1))] = mc (w : Int) (v.set w (y + 1)) := mc_put (k := (w : Int)) (v := v) w (y + 1) (by omega)
          have hmq := mc_past (k := (w : Int)) hbl
          have hmt := mc_tail (k := (w : Int)) hbl
          have hml := mc_length (k := (w : Int)) hbl
          have hw17 : 1 + w ≤ 16 := by omega
          have hjl := (okV_join hoF hob).1
          have hdr : (foldT (l.take i)).drop 16 = [] := List.drop_of_length_le (by omega)
          repeat' first
              | with_reducible refine wp_regionS (seg_eval (by simp -dsimp -implicitDefEqProofs [zV_rest, avMk, cMk, hd, hd2, h64, hx, hvl, hw16, hw17, hy, hma, hmp, hmq, hmt, hml, hjl, hdr, h16, hob, hoF, hfl, hbl, spJoin, unVc_vc]; rfl) ?_)
              | with_reducible refine wp_region (seg_eval (by simp -dsimp -implicitDefEqProofs [zV_rest, avMk, cMk, hd, hd2, h64, hx, hvl, hw16, hw17, hy, hma, hmp, hmq, hmt, hml, hjl, hdr, h16, hob, hoF, hfl, hbl, spJoin, unVc_vc]; rfl) ?_)
              | with_reducible refine wp_drawsS (seg_eval (by simp -dsimp -implicitDefEqProofs [zV_rest, avMk, cMk, hd, hd2, h64, hx, hvl, hw16, hw17, hy, hma, hmp, hmq, hmt, hml, hjl, hdr, h16, hob, hoF, hfl, hbl, spJoin, unVc_vc]; rfl) ?_)
              | with_reducible refine wp_draws (seg_eval (by simp -dsimp -implicitDefEqProofs [zV_rest, avMk, cMk, hd, hd2, h64, hx, hvl, hw16, hw17, hy, hma, hmp, hmq, hmt, hml, hjl, hdr, h16, hob, hoF, hfl, hbl, spJoin, unVc_vc]; rfl) ?_)
              | with_reducible refine seg_fin ?_
              | with_reducible refine seg_pan ?_
              | with_reducible refine seg_both ?_ ?_
              | with_reducible refine seg_case (fun x h => ?_) (fun h => ?_)
              | with_reducible refine seg_gate (fun h => ?_) (fun h => ?_)
              | with_reducible refine seg_need ?_ ?_
              | with_reducible refine wp_assoc ?_ | with_reducible refine wp_skipS ?_ | with_reducible refine wp_retS ?_ | with_reducible refine wp_exitS ?_ | with_reducible refine wp_dropS (wp_eqT (by simp -dsimp -implicitDefEqProofs [zV_rest, avMk, cMk, hd, hd2, h64, hx, hvl, hw16, hw17, hy, hma, hmp, hmq, hmt, hml, hjl, hdr, h16, hob, hoF, hfl, hbl, spJoin, unVc_vc]; rfl) ?_) | with_reducible refine wp_sealS (by simp -dsimp -implicitDefEqProofs [zV_rest, avMk, cMk, hd, hd2, h64, hx, hvl, hw16, hw17, hy, hma, hmp, hmq, hmt, hml, hjl, hdr, h16, hob, hoF, hfl, hbl, spJoin, unVc_vc]; rfl) ?_ | with_reducible refine wp_seal (by simp -dsimp -implicitDefEqProofs [zV_rest, avMk, cMk, hd, hd2, h64, hx, hvl, hw16, hw17, hy, hma, hmp, hmq, hmt, hml, hjl, hdr, h16, hob, hoF, hfl, hbl, spJoin, unVc_vc]; rfl) ?_ | with_reducible refine wp_closeS (by simp -dsimp -implicitDefEqProofs [zV_rest, avMk, cMk, hd, hd2, h64, hx, hvl, hw16, hw17, hy, hma, hmp, hmq, hmt, hml, hjl, hdr, h16, hob, hoF, hfl, hbl, spJoin, unVc_vc]; rfl) ?_ | with_reducible refine wp_close (by simp -dsimp -implicitDefEqProofs [zV_rest, avMk, cMk, hd, hd2, h64, hx, hvl, hw16, hw17, hy, hma, hmp, hmq, hmt, hml, hjl, hdr, h16, hob, hoF, hfl, hbl, spJoin, unVc_vc]; rfl) ?_ | with_reducible refine wp_conc_out ?_ | with_reducible refine wp_open_out ?_ | with_reducible refine wp_pack_out ?_ | with_reducible refine wp_blockS ?_ | with_reducible refine wp_skip' ?_ | with_reducible refine wp_ret' ?_ | with_reducible refine wp_exit' ?_ | with_reducible refine wp_drop (wp_eqT (by simp -dsimp -implicitDefEqProofs [zV_rest, avMk, cMk, hd, hd2, h64, hx, hvl, hw16, hw17, hy, hma, hmp, hmq, hmt, hml, hjl, hdr, h16, hob, hoF, hfl, hbl, spJoin, unVc_vc]; rfl) ?_) | with_reducible refine wp_block' ?_
              | with_reducible refine wp_condVS (by simp -dsimp -implicitDefEqProofs [zV_rest, avMk, cMk, hd, hd2, h64, hx, hvl, hw16, hw17, hy, hma, hmp, hmq, hmt, hml, hjl, hdr, h16, hob, hoF, hfl, hbl, spJoin, unVc_vc]; rfl) ?_
              | with_reducible refine wp_condV (by simp -dsimp -implicitDefEqProofs [zV_rest, avMk, cMk, hd, hd2, h64, hx, hvl, hw16, hw17, hy, hma, hmp, hmq, hmt, hml, hjl, hdr, h16, hob, hoF, hfl, hbl, spJoin, unVc_vc]; rfl) ?_
              | with_reducible refine cond_t ?_ | with_reducible refine cond_f ?_ | with_reducible refine cond_v (fun h => ?_) (fun h => ?_)
              | with_reducible refine post_then ?_ | with_reducible refine post_thenE ?_ | with_reducible refine post_thenP ?_ | with_reducible refine post_blkP ?_ | with_reducible refine post_thenR ?_ | with_reducible refine post_blkN ?_ | with_reducible refine post_blkE ?_ | with_reducible refine post_blkF rfl ?_ | with_reducible refine post_blkR ?_
              | with_reducible refine seg_eval (by simp -dsimp -implicitDefEqProofs [zV_rest, avMk, cMk, hd, hd2, h64, hx, hvl, hw16, hw17, hy, hma, hmp, hmq, hmt, hml, hjl, hdr, h16, hob, hoF, hfl, hbl, spJoin, unVc_vc]; rfl) ?_
          all_goals first
            | omega
            | exact ⟨j - 1, by omega, [], [0, 1], by simp, by simp, i + 1, by omega, by simp [avMk, cMk], by simp [hst, hjl, hdr]⟩
            | trace_state
        · have hd : decide ((i : Int) < (l.length : Int)) = false := by rw [decide_eq_false_iff_not]; omega
          have hd2 : decide (i < l.length) = false := by simp [hlt]
          have hil : l.take i = l := List.take_of_length_le (by omega)
          rw [hil] at hfl ⊢
          repeat' first
              | with_reducible refine wp_regionS (seg_eval (by simp -dsimp -implicitDefEqProofs [hd, hd2, hfl]; rfl) ?_)
              | with_reducible refine wp_region (seg_eval (by simp -dsimp -implicitDefEqProofs [hd, hd2, hfl]; rfl) ?_)
              | with_reducible refine wp_drawsS (seg_eval (by simp -dsimp -implicitDefEqProofs [hd, hd2, hfl]; rfl) ?_)
              | with_reducible refine wp_draws (seg_eval (by simp -dsimp -implicitDefEqProofs [hd, hd2, hfl]; rfl) ?_)
              | with_reducible refine seg_fin ?_
              | with_reducible refine seg_pan ?_
              | with_reducible refine seg_both ?_ ?_
              | with_reducible refine seg_case (fun x h => ?_) (fun h => ?_)
              | with_reducible refine seg_gate (fun h => ?_) (fun h => ?_)
              | with_reducible refine seg_need ?_ ?_
              | with_reducible refine wp_assoc ?_ | with_reducible refine wp_skipS ?_ | with_reducible refine wp_retS ?_ | with_reducible refine wp_exitS ?_ | with_reducible refine wp_dropS (wp_eqT (by simp -dsimp -implicitDefEqProofs [hd, hd2, hfl]; rfl) ?_) | with_reducible refine wp_sealS (by simp -dsimp -implicitDefEqProofs [hd, hd2, hfl]; rfl) ?_ | with_reducible refine wp_seal (by simp -dsimp -implicitDefEqProofs [hd, hd2, hfl]; rfl) ?_ | with_reducible refine wp_closeS (by simp -dsimp -implicitDefEqProofs [hd, hd2, hfl]; rfl) ?_ | with_reducible refine wp_close (by simp -dsimp -implicitDefEqProofs [hd, hd2, hfl]; rfl) ?_ | with_reducible refine wp_conc_out ?_ | with_reducible refine wp_open_out ?_ | with_reducible refine wp_pack_out ?_ | with_reducible refine wp_blockS ?_ | with_reducible refine wp_skip' ?_ | with_reducible refine wp_ret' ?_ | with_reducible refine wp_exit' ?_ | with_reducible refine wp_drop (wp_eqT (by simp -dsimp -implicitDefEqProofs [hd, hd2, hfl]; rfl) ?_) | with_reducible refine wp_block' ?_
              | with_reducible refine wp_condVS (by simp -dsimp -implicitDefEqProofs [hd, hd2, hfl]; rfl) ?_
              | with_reducible refine wp_condV (by simp -dsimp -implicitDefEqProofs [hd, hd2, hfl]; rfl) ?_
              | with_reducible refine cond_t ?_ | with_reducible refine cond_f ?_ | with_reducible refine cond_v (fun h => ?_) (fun h => ?_)
              | with_reducible refine post_then ?_ | with_reducible refine post_thenE ?_ | with_reducible refine post_thenP ?_ | with_reducible refine post_blkP ?_ | with_reducible refine post_thenR ?_ | with_reducible refine post_blkN ?_ | with_reducible refine post_blkE ?_ | with_reducible refine post_blkF rfl ?_ | with_reducible refine post_blkR ?_
              | with_reducible refine seg_eval (by simp -dsimp -implicitDefEqProofs [hd, hd2, hfl]; rfl) ?_
          all_goals first
            | omega
            | exact post_fin (vs := [.agg (vc (foldT l)), .v (.bool true)]) (by simp [resAll, res1, rs_17, hfl]) rfl ⟨[], [], by simp, by simp, by simp, by simp⟩
            | trace_state
set_option maxHeartbeats 16000000 in
theorem targetR_ok : CallOk Try.prog 18 spTarget := by
  refine ok_18 (Env.put_ok [] (Env.put_ok [] (Env.put_ok [] (Env.none_ok _) sizeR_ok) rightR_ok) joinR_ok) spTarget (wb_spc ?_)
  rintro ⟨s, l⟩ ⟨hs0, hs1, hll, hok⟩
  simp only at hs0 hs1 hll hok ⊢
  obtain ⟨s, rfl⟩ := Int.eq_ofNat_of_zero_le hs0
  simp only [Int.toNat_natCast]
  have hsl : (s : Int) < 65536 := hs1
  have hse := size_le s
  unfold ac_18
  cases hr : rightB s l
  · have ht : targetF s l = (zV, false) := by simp [targetF, hr]
    rw [ht]
    repeat' first
        | with_reducible refine wp_regionS (seg_eval (by simp -dsimp -implicitDefEqProofs [zV_rest, hsl, hr, hll, rightAt, spSize]; rfl) ?_)
        | with_reducible refine wp_region (seg_eval (by simp -dsimp -implicitDefEqProofs [zV_rest, hsl, hr, hll, rightAt, spSize]; rfl) ?_)
        | with_reducible refine wp_drawsS (seg_eval (by simp -dsimp -implicitDefEqProofs [zV_rest, hsl, hr, hll, rightAt, spSize]; rfl) ?_)
        | with_reducible refine wp_draws (seg_eval (by simp -dsimp -implicitDefEqProofs [zV_rest, hsl, hr, hll, rightAt, spSize]; rfl) ?_)
        | with_reducible refine seg_fin ?_
        | with_reducible refine seg_pan ?_
        | with_reducible refine seg_both ?_ ?_
        | with_reducible refine seg_case (fun x h => ?_) (fun h => ?_)
        | with_reducible refine seg_gate (fun h => ?_) (fun h => ?_)
        | with_reducible refine seg_need ?_ ?_
        | with_reducible refine wp_assoc ?_ | with_reducible refine wp_skipS ?_ | with_reducible refine wp_retS ?_ | with_reducible refine wp_exitS ?_ | with_reducible refine wp_dropS (wp_eqT (by simp -dsimp -implicitDefEqProofs [zV_rest, hsl, hr, hll, rightAt, spSize]; rfl) ?_) | with_reducible refine wp_sealS (by simp -dsimp -implicitDefEqProofs [zV_rest, hsl, hr, hll, rightAt, spSize]; rfl) ?_ | with_reducible refine wp_seal (by simp -dsimp -implicitDefEqProofs [zV_rest, hsl, hr, hll, rightAt, spSize]; rfl) ?_ | with_reducible refine wp_closeS (by simp -dsimp -implicitDefEqProofs [zV_rest, hsl, hr, hll, rightAt, spSize]; rfl) ?_ | with_reducible refine wp_close (by simp -dsimp -implicitDefEqProofs [zV_rest, hsl, hr, hll, rightAt, spSize]; rfl) ?_ | with_reducible refine wp_conc_out ?_ | with_reducible refine wp_open_out ?_ | with_reducible refine wp_pack_out ?_ | with_reducible refine wp_blockS ?_ | with_reducible refine wp_skip' ?_ | with_reducible refine wp_ret' ?_ | with_reducible refine wp_exit' ?_ | with_reducible refine wp_drop (wp_eqT (by simp -dsimp -implicitDefEqProofs [zV_rest, hsl, hr, hll, rightAt, spSize]; rfl) ?_) | with_reducible refine wp_block' ?_
        | with_reducible refine wp_condVS (by simp -dsimp -implicitDefEqProofs [zV_rest, hsl, hr, hll, rightAt, spSize]; rfl) ?_
        | with_reducible refine wp_condV (by simp -dsimp -implicitDefEqProofs [zV_rest, hsl, hr, hll, rightAt, spSize]; rfl) ?_
        | with_reducible refine cond_t ?_ | with_reducible refine cond_f ?_ | with_reducible refine cond_v (fun h => ?_) (fun h => ?_)
        | with_reducible refine post_then ?_ | with_reducible refine post_thenE ?_ | with_reducible refine post_thenP ?_ | with_reducible refine post_blkP ?_ | with_reducible refine post_thenR ?_ | with_reducible refine post_blkN ?_ | with_reducible refine post_blkE ?_ | with_reducible refine post_blkF rfl ?_ | with_reducible refine post_blkR ?_
        | with_reducible refine seg_eval (by simp -dsimp -implicitDefEqProofs [zV_rest, hsl, hr, hll, rightAt, spSize]; rfl) ?_
    all_goals first
      | omega
      | exact hok
      | exact post_fin rfl rfl ⟨[], [], rfl, rfl, rfl, rfl⟩
      | trace_state
  · have hR := right_iff.1 hr
    have hF : ∀ m ∈ l, okMk m ∧ FitsV s m.past := fun m hm => by
      obtain ⟨k, hk⟩ := List.mem_iff_getElem?.1 hm
      exact ⟨hok m hm, (hR.2 k m hk).2.1⟩
    by_cases hn : l.length < sizeS s
    · have ht : targetF s l = (zV, false) := by simp [targetF, hr]; omega
      have c1 : decide (l.length < sizeS s) = true := by simp [hn]
      rw [ht]
      repeat' first
          | with_reducible refine wp_regionS (seg_eval (by simp -dsimp -implicitDefEqProofs [zV_rest, hsl, hr, hll, rightAt, spSize, c1]; rfl) ?_)
          | with_reducible refine wp_region (seg_eval (by simp -dsimp -implicitDefEqProofs [zV_rest, hsl, hr, hll, rightAt, spSize, c1]; rfl) ?_)
          | with_reducible refine wp_drawsS (seg_eval (by simp -dsimp -implicitDefEqProofs [zV_rest, hsl, hr, hll, rightAt, spSize, c1]; rfl) ?_)
          | with_reducible refine wp_draws (seg_eval (by simp -dsimp -implicitDefEqProofs [zV_rest, hsl, hr, hll, rightAt, spSize, c1]; rfl) ?_)
          | with_reducible refine seg_fin ?_
          | with_reducible refine seg_pan ?_
          | with_reducible refine seg_both ?_ ?_
          | with_reducible refine seg_case (fun x h => ?_) (fun h => ?_)
          | with_reducible refine seg_gate (fun h => ?_) (fun h => ?_)
          | with_reducible refine seg_need ?_ ?_
          | with_reducible refine wp_assoc ?_ | with_reducible refine wp_skipS ?_ | with_reducible refine wp_retS ?_ | with_reducible refine wp_exitS ?_ | with_reducible refine wp_dropS (wp_eqT (by simp -dsimp -implicitDefEqProofs [zV_rest, hsl, hr, hll, rightAt, spSize, c1]; rfl) ?_) | with_reducible refine wp_sealS (by simp -dsimp -implicitDefEqProofs [zV_rest, hsl, hr, hll, rightAt, spSize, c1]; rfl) ?_ | with_reducible refine wp_seal (by simp -dsimp -implicitDefEqProofs [zV_rest, hsl, hr, hll, rightAt, spSize, c1]; rfl) ?_ | with_reducible refine wp_closeS (by simp -dsimp -implicitDefEqProofs [zV_rest, hsl, hr, hll, rightAt, spSize, c1]; rfl) ?_ | with_reducible refine wp_close (by simp -dsimp -implicitDefEqProofs [zV_rest, hsl, hr, hll, rightAt, spSize, c1]; rfl) ?_ | with_reducible refine wp_conc_out ?_ | with_reducible refine wp_open_out ?_ | with_reducible refine wp_pack_out ?_ | with_reducible refine wp_blockS ?_ | with_reducible refine wp_skip' ?_ | with_reducible refine wp_ret' ?_ | with_reducible refine wp_exit' ?_ | with_reducible refine wp_drop (wp_eqT (by simp -dsimp -implicitDefEqProofs [zV_rest, hsl, hr, hll, rightAt, spSize, c1]; rfl) ?_) | with_reducible refine wp_block' ?_
          | with_reducible refine wp_condVS (by simp -dsimp -implicitDefEqProofs [zV_rest, hsl, hr, hll, rightAt, spSize, c1]; rfl) ?_
          | with_reducible refine wp_condV (by simp -dsimp -implicitDefEqProofs [zV_rest, hsl, hr, hll, rightAt, spSize, c1]; rfl) ?_
          | with_reducible refine cond_t ?_ | with_reducible refine cond_f ?_ | with_reducible refine cond_v (fun h => ?_) (fun h => ?_)
          | with_reducible refine post_then ?_ | with_reducible refine post_thenE ?_ | with_reducible refine post_thenP ?_ | with_reducible refine post_blkP ?_ | with_reducible refine post_thenR ?_ | with_reducible refine post_blkN ?_ | with_reducible refine post_blkE ?_ | with_reducible refine post_blkF rfl ?_ | with_reducible refine post_blkR ?_
          | with_reducible refine seg_eval (by simp -dsimp -implicitDefEqProofs [zV_rest, hsl, hr, hll, rightAt, spSize, c1]; rfl) ?_
      all_goals first
        | omega
        | exact hok
        | exact post_fin rfl rfl ⟨[], [], rfl, rfl, rfl, rfl⟩
        | trace_state
    · have ht : targetF s l = (foldT l, true) := by simp [targetF, hr]; omega
      have c1 : decide (l.length < sizeS s) = false := by simp; omega
      rw [ht]
      repeat' first
          | with_reducible refine wp_regionS (seg_eval (by simp -dsimp -implicitDefEqProofs [zV_rest, hsl, hr, hll, rightAt, spSize, c1]; rfl) ?_)
          | with_reducible refine wp_region (seg_eval (by simp -dsimp -implicitDefEqProofs [zV_rest, hsl, hr, hll, rightAt, spSize, c1]; rfl) ?_)
          | with_reducible refine wp_drawsS (seg_eval (by simp -dsimp -implicitDefEqProofs [zV_rest, hsl, hr, hll, rightAt, spSize, c1]; rfl) ?_)
          | with_reducible refine wp_draws (seg_eval (by simp -dsimp -implicitDefEqProofs [zV_rest, hsl, hr, hll, rightAt, spSize, c1]; rfl) ?_)
          | with_reducible refine seg_fin ?_
          | with_reducible refine seg_pan ?_
          | with_reducible refine seg_both ?_ ?_
          | with_reducible refine seg_case (fun x h => ?_) (fun h => ?_)
          | with_reducible refine seg_gate (fun h => ?_) (fun h => ?_)
          | with_reducible refine seg_need ?_ ?_
          | with_reducible refine wp_assoc ?_ | with_reducible refine wp_skipS ?_ | with_reducible refine wp_retS ?_ | with_reducible refine wp_exitS ?_ | with_reducible refine wp_dropS (wp_eqT (by simp -dsimp -implicitDefEqProofs [zV_rest, hsl, hr, hll, rightAt, spSize, c1]; rfl) ?_) | with_reducible refine wp_sealS (by simp -dsimp -implicitDefEqProofs [zV_rest, hsl, hr, hll, rightAt, spSize, c1]; rfl) ?_ | with_reducible refine wp_seal (by simp -dsimp -implicitDefEqProofs [zV_rest, hsl, hr, hll, rightAt, spSize, c1]; rfl) ?_ | with_reducible refine wp_closeS (by simp -dsimp -implicitDefEqProofs [zV_rest, hsl, hr, hll, rightAt, spSize, c1]; rfl) ?_ | with_reducible refine wp_close (by simp -dsimp -implicitDefEqProofs [zV_rest, hsl, hr, hll, rightAt, spSize, c1]; rfl) ?_ | with_reducible refine wp_conc_out ?_ | with_reducible refine wp_open_out ?_ | with_reducible refine wp_pack_out ?_ | with_reducible refine wp_blockS ?_ | with_reducible refine wp_skip' ?_ | with_reducible refine wp_ret' ?_ | with_reducible refine wp_exit' ?_ | with_reducible refine wp_drop (wp_eqT (by simp -dsimp -implicitDefEqProofs [zV_rest, hsl, hr, hll, rightAt, spSize, c1]; rfl) ?_) | with_reducible refine wp_block' ?_
          | with_reducible refine wp_condVS (by simp -dsimp -implicitDefEqProofs [zV_rest, hsl, hr, hll, rightAt, spSize, c1]; rfl) ?_
          | with_reducible refine wp_condV (by simp -dsimp -implicitDefEqProofs [zV_rest, hsl, hr, hll, rightAt, spSize, c1]; rfl) ?_
          | with_reducible refine cond_t ?_ | with_reducible refine cond_f ?_ | with_reducible refine cond_v (fun h => ?_) (fun h => ?_)
          | with_reducible refine post_then ?_ | with_reducible refine post_thenE ?_ | with_reducible refine post_thenP ?_ | with_reducible refine post_blkP ?_ | with_reducible refine post_thenR ?_ | with_reducible refine post_blkN ?_ | with_reducible refine post_blkE ?_ | with_reducible refine post_blkF rfl ?_ | with_reducible refine post_blkR ?_
          | with_reducible refine seg_eval (by simp -dsimp -implicitDefEqProofs [zV_rest, hsl, hr, hll, rightAt, spSize, c1]; rfl) ?_
      all_goals first
        | omega
        | exact hok
        | skip
      refine wp_loop' (fun j ts mm => ∃ i : Nat, i + j = l.length ∧
        ts = [(1, .fptr (.agg [.v (.int .u16 (s : Int)), .fsl 17 (l.map avMk)]) 0), (2, .ptr 0 0 0), (4, .ptr 1 0 0), (5, .v (.int .i64 i))] ∧
        mm = [.var (vc zV), .var (vc (foldT (l.take i)))]) l.length ?_ ?_
      · exact ⟨[], [1, 2], rfl, rfl, 0, by omega, by simp, by simp [foldT_nil]⟩
      · rintro j ts mm ⟨i, hi, rfl, rfl⟩
        have hoF : okV (foldT (l.take i)) := okV_foldT okV_zV fun m hm => hF m (List.mem_of_mem_take hm)
        have hfl := hoF.1
        by_cases hlt : i < l.length
        · obtain ⟨x, hx⟩ : ∃ x, l[i]? = some x := ⟨_, List.getElem?_eq_getElem (by omega)⟩
          have hd : decide ((i : Int) < (l.length : Int)) = true := by rw [decide_eq_true_eq]; omega
          have hd2 : decide (i < l.length) = true := by simp [hlt]
          have h64 : IntKind.wrap .i64 ((i : Int) + 1) = ((i + 1 : Nat) : Int) := by rw [IntWalk.i64_in _ (by omega)]; rfl
          have hxo := (hF x (List.mem_of_getElem? hx)).1
          have hxf := (hF x (List.mem_of_getElem? hx)).2
          have hxm := (hR.2 i x hx).1
          have hob := okV_bump hxo hxf
          have hst : foldT (l.take (i + 1)) = joinV (foldT (l.take i)) (bumpV x) := by rw [take_more hx, foldT_snoc]
          obtain ⟨w, v⟩ := x
          obtain ⟨hw0, hw1, hv⟩ := hxo
          simp only at hw0 hw1 hv hxm hxf
          obtain ⟨w, rfl⟩ := Int.eq_ofNat_of_zero_le hw0
          simp only [Int.toNat_natCast] at hxm
          have hvl := hv.1
          have hw16 := has_lt (by omega) hxm
          obtain ⟨y, hy⟩ : ∃ y, v[w]? = some y := ⟨_, List.getElem?_eq_getElem (by omega)⟩
          have hy1 := (hxf w y hy).1
          have hbv : bumpV ⟨(w : Int), v⟩ = v.set w (y + 1) := by
            simp only [bumpV, Int.toNat_natCast, List.getD_eq_getElem?_getD, hy, Option.getD_some]
          rw [hbv] at hob hst
          have hbl := hob.1
          have h16 : IntKind.wrap .u16 ((y : Int) + 1) = (y : Int) + 1 := IntWalk.u16_in _ (by omega)
          have hma := take_drop_one hy
          have hmp : splice (vc v) w [.v (.int .u16 ((y : Int) + 1))] = vc (v.set w (y + 1)) := vc_splice v w (y + 1) (by omega)
          have hvp := mc_past (k := (w : Int)) hvl
          have hvt := mc_tail (k := (w : Int)) hvl
          have hw17 : w ≤ 15 := by omega
          have hjl := (okV_join hoF hob).1
          have hdr : (foldT (l.take i)).drop 16 = [] := List.drop_of_length_le (by omega)
          repeat' first
              | with_reducible refine wp_regionS (seg_eval (by simp -dsimp -implicitDefEqProofs [zV_rest, avMk, cMk, hd, hd2, h64, hx, hvl, hw16, hw17, hy, hma, hmp, hvp, hvt, hjl, hdr, h16, hob, hoF, hfl, hbl, spJoin, unVc_vc]; rfl) ?_)
              | with_reducible refine wp_region (seg_eval (by simp -dsimp -implicitDefEqProofs [zV_rest, avMk, cMk, hd, hd2, h64, hx, hvl, hw16, hw17, hy, hma, hmp, hvp, hvt, hjl, hdr, h16, hob, hoF, hfl, hbl, spJoin, unVc_vc]; rfl) ?_)
              | with_reducible refine wp_drawsS (seg_eval (by simp -dsimp -implicitDefEqProofs [zV_rest, avMk, cMk, hd, hd2, h64, hx, hvl, hw16, hw17, hy, hma, hmp, hvp, hvt, hjl, hdr, h16, hob, hoF, hfl, hbl, spJoin, unVc_vc]; rfl) ?_)
              | with_reducible refine wp_draws (seg_eval (by simp -dsimp -implicitDefEqProofs [zV_rest, avMk, cMk, hd, hd2, h64, hx, hvl, hw16, hw17, hy, hma, hmp, hvp, hvt, hjl, hdr, h16, hob, hoF, hfl, hbl, spJoin, unVc_vc]; rfl) ?_)
              | with_reducible refine seg_fin ?_
              | with_reducible refine seg_pan ?_
              | with_reducible refine seg_both ?_ ?_
              | with_reducible refine seg_case (fun x h => ?_) (fun h => ?_)
              | with_reducible refine seg_gate (fun h => ?_) (fun h => ?_)
              | with_reducible refine seg_need ?_ ?_
              | with_reducible refine wp_assoc ?_ | with_reducible refine wp_skipS ?_ | with_reducible refine wp_retS ?_ | with_reducible refine wp_exitS ?_ | with_reducible refine wp_dropS (wp_eqT (by simp -dsimp -implicitDefEqProofs [zV_rest, avMk, cMk, hd, hd2, h64, hx, hvl, hw16, hw17, hy, hma, hmp, hvp, hvt, hjl, hdr, h16, hob, hoF, hfl, hbl, spJoin, unVc_vc]; rfl) ?_) | with_reducible refine wp_sealS (by simp -dsimp -implicitDefEqProofs [zV_rest, avMk, cMk, hd, hd2, h64, hx, hvl, hw16, hw17, hy, hma, hmp, hvp, hvt, hjl, hdr, h16, hob, hoF, hfl, hbl, spJoin, unVc_vc]; rfl) ?_ | with_reducible refine wp_seal (by simp -dsimp -implicitDefEqProofs [zV_rest, avMk, cMk, hd, hd2, h64, hx, hvl, hw16, hw17, hy, hma, hmp, hvp, hvt, hjl, hdr, h16, hob, hoF, hfl, hbl, spJoin, unVc_vc]; rfl) ?_ | with_reducible refine wp_closeS (by simp -dsimp -implicitDefEqProofs [zV_rest, avMk, cMk, hd, hd2, h64, hx, hvl, hw16, hw17, hy, hma, hmp, hvp, hvt, hjl, hdr, h16, hob, hoF, hfl, hbl, spJoin, unVc_vc]; rfl) ?_ | with_reducible refine wp_close (by simp -dsimp -implicitDefEqProofs [zV_rest, avMk, cMk, hd, hd2, h64, hx, hvl, hw16, hw17, hy, hma, hmp, hvp, hvt, hjl, hdr, h16, hob, hoF, hfl, hbl, spJoin, unVc_vc]; rfl) ?_ | with_reducible refine wp_conc_out ?_ | with_reducible refine wp_open_out ?_ | with_reducible refine wp_pack_out ?_ | with_reducible refine wp_blockS ?_ | with_reducible refine wp_skip' ?_ | with_reducible refine wp_ret' ?_ | with_reducible refine wp_exit' ?_ | with_reducible refine wp_drop (wp_eqT (by simp -dsimp -implicitDefEqProofs [zV_rest, avMk, cMk, hd, hd2, h64, hx, hvl, hw16, hw17, hy, hma, hmp, hvp, hvt, hjl, hdr, h16, hob, hoF, hfl, hbl, spJoin, unVc_vc]; rfl) ?_) | with_reducible refine wp_block' ?_
              | with_reducible refine wp_condVS (by simp -dsimp -implicitDefEqProofs [zV_rest, avMk, cMk, hd, hd2, h64, hx, hvl, hw16, hw17, hy, hma, hmp, hvp, hvt, hjl, hdr, h16, hob, hoF, hfl, hbl, spJoin, unVc_vc]; rfl) ?_
              | with_reducible refine wp_condV (by simp -dsimp -implicitDefEqProofs [zV_rest, avMk, cMk, hd, hd2, h64, hx, hvl, hw16, hw17, hy, hma, hmp, hvp, hvt, hjl, hdr, h16, hob, hoF, hfl, hbl, spJoin, unVc_vc]; rfl) ?_
              | with_reducible refine cond_t ?_ | with_reducible refine cond_f ?_ | with_reducible refine cond_v (fun h => ?_) (fun h => ?_)
              | with_reducible refine post_then ?_ | with_reducible refine post_thenE ?_ | with_reducible refine post_thenP ?_ | with_reducible refine post_blkP ?_ | with_reducible refine post_thenR ?_ | with_reducible refine post_blkN ?_ | with_reducible refine post_blkE ?_ | with_reducible refine post_blkF rfl ?_ | with_reducible refine post_blkR ?_
              | with_reducible refine seg_eval (by simp -dsimp -implicitDefEqProofs [zV_rest, avMk, cMk, hd, hd2, h64, hx, hvl, hw16, hw17, hy, hma, hmp, hvp, hvt, hjl, hdr, h16, hob, hoF, hfl, hbl, spJoin, unVc_vc]; rfl) ?_
          all_goals first
            | omega
            | exact ⟨j - 1, by omega, [], [0, 1], by simp, by simp, i + 1, by omega, by simp [avMk, cMk], by simp [hst, hjl, hdr]⟩
            | trace_state
        · have hd : decide ((i : Int) < (l.length : Int)) = false := by rw [decide_eq_false_iff_not]; omega
          have hd2 : decide (i < l.length) = false := by simp [hlt]
          have hil : l.take i = l := List.take_of_length_le (by omega)
          rw [hil] at hfl ⊢
          repeat' first
              | with_reducible refine wp_regionS (seg_eval (by simp -dsimp -implicitDefEqProofs [hd, hd2, hfl]; rfl) ?_)
              | with_reducible refine wp_region (seg_eval (by simp -dsimp -implicitDefEqProofs [hd, hd2, hfl]; rfl) ?_)
              | with_reducible refine wp_drawsS (seg_eval (by simp -dsimp -implicitDefEqProofs [hd, hd2, hfl]; rfl) ?_)
              | with_reducible refine wp_draws (seg_eval (by simp -dsimp -implicitDefEqProofs [hd, hd2, hfl]; rfl) ?_)
              | with_reducible refine seg_fin ?_
              | with_reducible refine seg_pan ?_
              | with_reducible refine seg_both ?_ ?_
              | with_reducible refine seg_case (fun x h => ?_) (fun h => ?_)
              | with_reducible refine seg_gate (fun h => ?_) (fun h => ?_)
              | with_reducible refine seg_need ?_ ?_
              | with_reducible refine wp_assoc ?_ | with_reducible refine wp_skipS ?_ | with_reducible refine wp_retS ?_ | with_reducible refine wp_exitS ?_ | with_reducible refine wp_dropS (wp_eqT (by simp -dsimp -implicitDefEqProofs [hd, hd2, hfl]; rfl) ?_) | with_reducible refine wp_sealS (by simp -dsimp -implicitDefEqProofs [hd, hd2, hfl]; rfl) ?_ | with_reducible refine wp_seal (by simp -dsimp -implicitDefEqProofs [hd, hd2, hfl]; rfl) ?_ | with_reducible refine wp_closeS (by simp -dsimp -implicitDefEqProofs [hd, hd2, hfl]; rfl) ?_ | with_reducible refine wp_close (by simp -dsimp -implicitDefEqProofs [hd, hd2, hfl]; rfl) ?_ | with_reducible refine wp_conc_out ?_ | with_reducible refine wp_open_out ?_ | with_reducible refine wp_pack_out ?_ | with_reducible refine wp_blockS ?_ | with_reducible refine wp_skip' ?_ | with_reducible refine wp_ret' ?_ | with_reducible refine wp_exit' ?_ | with_reducible refine wp_drop (wp_eqT (by simp -dsimp -implicitDefEqProofs [hd, hd2, hfl]; rfl) ?_) | with_reducible refine wp_block' ?_
              | with_reducible refine wp_condVS (by simp -dsimp -implicitDefEqProofs [hd, hd2, hfl]; rfl) ?_
              | with_reducible refine wp_condV (by simp -dsimp -implicitDefEqProofs [hd, hd2, hfl]; rfl) ?_
              | with_reducible refine cond_t ?_ | with_reducible refine cond_f ?_ | with_reducible refine cond_v (fun h => ?_) (fun h => ?_)
              | with_reducible refine post_then ?_ | with_reducible refine post_thenE ?_ | with_reducible refine post_thenP ?_ | with_reducible refine post_blkP ?_ | with_reducible refine post_thenR ?_ | with_reducible refine post_blkN ?_ | with_reducible refine post_blkE ?_ | with_reducible refine post_blkF rfl ?_ | with_reducible refine post_blkR ?_
              | with_reducible refine seg_eval (by simp -dsimp -implicitDefEqProofs [hd, hd2, hfl]; rfl) ?_
          all_goals first
            | omega
            | exact post_fin (vs := [.agg (vc (foldT l)), .v (.bool true)]) (by simp [resAll, res1, rs_18, hfl]) rfl ⟨[], [], by simp, by simp, by simp, by simp⟩
            | trace_state
end Go.Proofs.Ytbponegjfccgfaa.Am
