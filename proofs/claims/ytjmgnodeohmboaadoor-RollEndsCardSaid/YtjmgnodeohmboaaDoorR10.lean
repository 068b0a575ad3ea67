/-
  The law RollEnds, as a contract.
-/
import Derived.Test.YtjmgnodeohmboaaDoorR9
namespace Go.Proofs.YtjmgnodeohmboaaDoor.Am
set_option linter.unusedSimpArgs false
set_option linter.unusedVariables false
open Go Go.Proofs
attribute [local irreducible] wpA
attribute [-simp] splice

theorem pathG_take (r : Int × Nat) (l : List (Bool × Int)) (k : Nat) : pathG r (l.take k) = (pathG r l).take k := by
  induction l generalizing r k with
  | nil => simp [pathG]
  | cons c l ih =>
    cases k with
    | zero => simp [pathG]
    | succ k =>
      simp only [List.take_succ_cons, pathG]
      split
      · rw [ih]; rfl
      · simp
theorem pathV_take {r : Int × Nat} {l : List (Bool × Int)} {k : Nat} (h : rightV r.1 r.2 = true) : pathV r (l.take k) = (pathV r l).take (k + 1) := by
  unfold pathV
  rw [if_pos h, if_pos h, pathG_take]; rfl
/-- Where a path ends ahead of its changes, the next change cannot be made. -/
theorem pathG_end (r : Int × Nat) (l : List (Bool × Int)) (x : Int × Nat) (c : Bool × Int) (hx : (r :: pathG r l)[(pathG r l).length]? = some x) (hc : l[(pathG r l).length]? = some c) : (applyV x.1 x.2 c.1 c.2.toNat).2 ≠ 0 := by
  induction l generalizing r with
  | nil => simp at hc
  | cons d l ih =>
    by_cases hd : (applyV r.1 r.2 d.1 d.2.toNat).2 = 0
    · have e : pathG r (d :: l) = (applyV r.1 r.2 d.1 d.2.toNat).1 :: pathG (applyV r.1 r.2 d.1 d.2.toNat).1 l := by rw [pathG, if_pos hd]
      rw [e] at hx hc
      simp only [List.length_cons, List.getElem?_cons_succ] at hx hc
      exact ih _ hx hc
    · have e : pathG r (d :: l) = [] := by rw [pathG, if_neg hd]
      rw [e] at hx hc
      simp at hx hc
      subst hx hc
      exact hd
theorem path_lt {r : Int × Nat} (hr : r.2 < 65536) : ∀ (l : List (Bool × Int)) (x : Int × Nat), x ∈ pathG r l → x.2 < 65536 := by
  intro l
  induction l generalizing r with
  | nil => intro x hx; simp [pathG] at hx
  | cons c l ih =>
    intro x hx
    unfold pathG at hx
    split at hx
    · rcases List.mem_cons.1 hx with rfl | hx
      · exact applyV_lt hr
      · exact ih (applyV_lt hr) x hx
    · cases hx
theorem take_avCh (l : List (Bool × Int)) (k : Nat) : (l.map avCh).take k = (l.take k).map avCh := by simp
open Classical in
theorem pathAt2 (v : Int) (m : Nat) (l : List (Bool × Int)) (k : Nat) : spPath [.agg [.v (.int .i64 v), .v (.int .u16 (m : Nat))], .fsl 2 ((l.map avCh).take k)] [] =
    if m < 65536 ∧ (l.take k).length ≤ 1000 ∧ (∀ y ∈ l.take k, okCh y) then some (.ret (.fsl 2 ((pathV (v, m) (l.take k)).map avRo)), []) else none := by rw [take_avCh]; exact pathAt v m (l.take k)

noncomputable def spEnds : Spec := spc (X := (Int × Nat) × List (Bool × Int) × Nat) (fun p => ([avRo p.1, .fsl 2 (p.2.1.map avCh), .v (.int .u8 (p.2.2 : Nat))], [])) (fun p => p.1.2 < 65536 ∧ (∀ y ∈ p.2.1, okCh y) ∧ p.2.1.length ≤ maxLen ∧ p.2.2 < 256) (fun _ => (.ret (.v (.bool true)), []))

set_option maxHeartbeats 16000000 in
theorem rollEnds_ok : CallOk Tryd.prog 8 spEnds := by
  refine okp_8 (Env.put_ok [] (Env.put_ok [] (Env.put_ok [] (Env.put_ok [] (Env.put_ok [] (Env.none_ok _) alive_ok) changes_ok) path_ok) rollRight_ok) apply_ok) spEnds (wb_spc ?_)
  rintro ⟨⟨v, m⟩, l, c⟩ ⟨hm, hok, hmx, hc⟩
  simp only [avRo] at hm hok hmx hc ⊢
  have hm2 : (m : Int) < 65536 := by omega
  unfold acp_8
  by_cases hl : l.length ≤ 100
  · have c1 : decide ((100 : Int) < (l.length : Int)) = false := by rw [decide_eq_false_iff_not]; omega
    have c2 : decide (100 < l.length) = false := by simp; omega
    cases hr : rightV v m
    · repeat' with_reducible first
        | refine wp_regionS (seg_eval (by simp -dsimp -implicitDefEqProofs [spYes, spRightV, c1, c2, hm2, hr, Int.toNat_natCast]; rfl) ?_)
        | refine wp_region (seg_eval (by simp -dsimp -implicitDefEqProofs [spYes, spRightV, c1, c2, hm2, hr, Int.toNat_natCast]; rfl) ?_)
        | refine wp_drawsS (seg_eval (by simp -dsimp -implicitDefEqProofs [spYes, spRightV, c1, c2, hm2, hr, Int.toNat_natCast]; rfl) ?_)
        | refine wp_draws (seg_eval (by simp -dsimp -implicitDefEqProofs [spYes, spRightV, c1, c2, hm2, hr, Int.toNat_natCast]; rfl) ?_)
        | refine seg_fin ?_
        | refine seg_pan ?_
        | refine seg_both ?_ ?_
        | refine seg_case (fun x h => ?_) (fun h => ?_)
        | refine seg_gate (fun h => ?_) (fun h => ?_)
        | refine seg_need ?_ ?_
        | refine wp_assoc ?_ | refine wp_skipS ?_ | refine wp_retS ?_ | refine wp_exitS ?_ | refine wp_dropS (wp_eqT (by simp -dsimp -implicitDefEqProofs; rfl) ?_) | refine wp_sealS (by simp -dsimp -implicitDefEqProofs; rfl) ?_ | refine wp_seal (by simp -dsimp -implicitDefEqProofs; rfl) ?_ | refine wp_pack_out ?_ | refine wp_blockS ?_ | refine wp_skip' ?_ | refine wp_ret' ?_ | refine wp_exit' ?_ | refine wp_drop (wp_eqT (by simp -dsimp -implicitDefEqProofs; rfl) ?_) | refine wp_block' ?_
        | refine wp_condVS (by simp -dsimp -implicitDefEqProofs; rfl) ?_
        | refine wp_condV (by simp -dsimp -implicitDefEqProofs; rfl) ?_
        | refine cond_t ?_ | refine cond_f ?_ | refine cond_v (fun h => ?_) (fun h => ?_)
        | refine post_then ?_ | refine post_thenE ?_ | refine post_thenP ?_ | refine post_blkP ?_ | refine post_thenR ?_ | refine post_blkN ?_ | refine post_blkE ?_ | refine post_blkF rfl ?_ | refine post_blkR ?_
        | refine seg_eval (by simp -dsimp -implicitDefEqProofs [spYes, spRightV, c1, c2, hm2, hr, Int.toNat_natCast]; rfl) ?_
      all_goals first
        | omega
        | exact post_fin rfl rfl ⟨[], [], rfl, rfl, rfl, rfl⟩
        | trace_state
    · have hl1 : l.length ≤ 1000000 := by omega
      have hl2 : l.length ≤ 1000 := by omega
      have w1 : IntKind.wrap .i64 (c : Int) = (c : Int) := IntWalk.i64_in _ (by omega)
      have w2 : IntKind.wrap .i64 ((l.length : Int) + 1) = (l.length : Int) + 1 := IntWalk.i64_in _ (by omega)
      have n0 : ¬ ((l.length : Int) + 1 = 0) := by omega
      obtain ⟨K, hK⟩ : ∃ K, K = c % (l.length + 1) := ⟨_, rfl⟩
      have hKl : K ≤ l.length := by have := Nat.mod_lt c (show 0 < l.length + 1 by omega); omega
      have w4 : (c : Int).tmod ((l.length : Int) + 1) = (K : Int) := by
        rw [hK, show ((l.length : Int) + 1) = ((l.length + 1 : Nat) : Int) from rfl]
        exact (Int.ofNat_tmod _ _).symm
      have hPl := pathV_len (v, m) l
      have hP := pathV_take (r := (v, m)) (l := l) (k := K) hr
      have hA : pathV (v, m) l = (v, m) :: pathG (v, m) l := by unfold pathV; rw [if_pos hr]
      have hAlt : ∀ x ∈ pathV (v, m) l, x.2 < 65536 := fun x hx => by
        rw [hA] at hx
        rcases List.mem_cons.1 hx with rfl | hx
        · exact hm
        · exact path_lt (r := (v, m)) hm l x hx
      have htk : (l.take K).length ≤ 1000 := by rw [List.length_take]; omega
      have hok2 : ∀ y ∈ l.take K, okCh y := fun y hy => hok y (List.mem_of_mem_take hy)
      repeat' with_reducible first
        | refine wp_regionS (seg_eval (by simp -dsimp -implicitDefEqProofs [spYes, spRightV, c1, c2, hm2, hr, changesAt, hl1, w1, w2, w4, n0, Int.toNat_natCast]; rfl) ?_)
        | refine wp_region (seg_eval (by simp -dsimp -implicitDefEqProofs [spYes, spRightV, c1, c2, hm2, hr, changesAt, hl1, w1, w2, w4, n0, Int.toNat_natCast]; rfl) ?_)
        | refine seg_fin ?_
        | refine seg_pan ?_
        | refine seg_both ?_ ?_
        | refine seg_case (fun x h => ?_) (fun h => ?_)
        | refine seg_gate (fun h => ?_) (fun h => ?_)
        | refine seg_need ?_ ?_
        | refine wp_assoc ?_ | refine wp_skipS ?_ | refine wp_retS ?_ | refine wp_exitS ?_ | refine wp_dropS (wp_eqT (by simp -dsimp -implicitDefEqProofs; rfl) ?_) | refine wp_sealS (by simp -dsimp -implicitDefEqProofs; rfl) ?_ | refine wp_seal (by simp -dsimp -implicitDefEqProofs; rfl) ?_ | refine wp_pack_out ?_ | refine wp_blockS ?_ | refine wp_skip' ?_ | refine wp_ret' ?_ | refine wp_exit' ?_ | refine wp_drop (wp_eqT (by simp -dsimp -implicitDefEqProofs; rfl) ?_) | refine wp_block' ?_
        | refine wp_condVS (by simp -dsimp -implicitDefEqProofs; rfl) ?_
        | refine wp_condV (by simp -dsimp -implicitDefEqProofs; rfl) ?_
        | refine cond_t ?_ | refine cond_f ?_ | refine cond_v (fun h => ?_) (fun h => ?_)
        | refine post_then ?_ | refine post_thenE ?_ | refine post_thenP ?_ | refine post_blkP ?_ | refine post_thenR ?_ | refine post_blkN ?_ | refine post_blkE ?_ | refine post_blkF rfl ?_ | refine post_blkR ?_
        | refine seg_eval (by simp -dsimp -implicitDefEqProofs [spYes, spRightV, c1, c2, hm2, hr, changesAt, hl1, w1, w2, w4, n0, Int.toNat_natCast]; rfl) ?_
      refine wp_drawsR (fun ts mm => ts = [(7, .fsl 2 (l.map avCh)), (8, .v (.int .i64 K)), (9, .fsl 2 ((pathV (v, m) l).map avRo)), (10, .fsl 2 ((pathV (v, m) (l.take K)).map avRo))] ∧ mm = []) ?_ ?_
      · intro W hW
        repeat' with_reducible first
          | refine wp_regionS (seg_eval (by simp -dsimp -implicitDefEqProofs [pathAt, pathAt2, hm, hl1, hl2, hKl, htk]; rfl) ?_)
          | refine wp_region (seg_eval (by simp -dsimp -implicitDefEqProofs [pathAt, pathAt2, hm, hl1, hl2, hKl, htk]; rfl) ?_)
          | refine wp_drawsS (seg_eval (by simp -dsimp -implicitDefEqProofs [pathAt, pathAt2, hm, hl1, hl2, hKl, htk]; rfl) ?_)
          | refine wp_draws (seg_eval (by simp -dsimp -implicitDefEqProofs [pathAt, pathAt2, hm, hl1, hl2, hKl, htk]; rfl) ?_)
          | refine seg_fin ?_
          | refine seg_pan ?_
          | refine seg_both ?_ ?_
          | refine seg_case (fun x h => ?_) (fun h => ?_)
          | refine seg_gate (fun h => ?_) (fun h => ?_)
          | refine seg_need ?_ ?_
          | refine wp_assoc ?_ | refine wp_skipS ?_ | refine wp_retS ?_ | refine wp_exitS ?_ | refine wp_dropS (wp_eqT (by simp -dsimp -implicitDefEqProofs; rfl) ?_) | refine wp_sealS (by simp -dsimp -implicitDefEqProofs; rfl) ?_ | refine wp_seal (by simp -dsimp -implicitDefEqProofs; rfl) ?_ | refine wp_pack_out ?_ | refine wp_blockS ?_ | refine wp_skip' ?_ | refine wp_ret' ?_ | refine wp_exit' ?_ | refine wp_drop (wp_eqT (by simp -dsimp -implicitDefEqProofs; rfl) ?_) | refine wp_block' ?_
          | refine wp_condVS (by simp -dsimp -implicitDefEqProofs; rfl) ?_
          | refine wp_condV (by simp -dsimp -implicitDefEqProofs; rfl) ?_
          | refine cond_t ?_ | refine cond_f ?_ | refine cond_v (fun h => ?_) (fun h => ?_)
          | refine post_then ?_ | refine post_thenE ?_ | refine post_thenP ?_ | refine post_blkP ?_ | refine post_thenR ?_ | refine post_blkN ?_ | refine post_blkE ?_ | refine post_blkF rfl ?_ | refine post_blkR ?_
          | refine seg_eval (by simp -dsimp -implicitDefEqProofs [pathAt, pathAt2, hm, hl1, hl2, hKl, htk]; rfl) ?_
        all_goals first
          | omega
          | exact ⟨fun b h => hok _ h, fun b h => hok _ h⟩
          | exact ⟨by omega, fun b h => hok2 _ h, fun b h => hok2 _ h⟩
          | exact hW _ _ ⟨[], [], rfl, rfl, by simp, by simp⟩
          | trace_state
      · rintro ts mm ⟨rfl, rfl⟩
        have hend := pathG_end (v, m) l
        obtain ⟨A, hAe⟩ : ∃ A, A = pathV (v, m) l := ⟨_, rfl⟩
        obtain ⟨B, hBe⟩ : ∃ B, B = pathV (v, m) (l.take K) := ⟨_, rfl⟩
        rw [← hAe] at hP hA hPl hAlt
        rw [← hBe] at hP
        rw [← hAe, ← hBe]
        have hA1 : 1 ≤ A.length := by rw [hA]; simp
        have hB : B.length = min (K + 1) A.length := by rw [hP, List.length_take]
        have e1 : (B.length == 0) = false := by rw [beq_eq_false_iff_ne]; omega
        have e2 : ((B.length : Int) == 0) = false := by rw [beq_eq_false_iff_ne]; omega
        have e3 : decide (A.length < B.length) = false := by simp; omega
        have e4 : decide ((A.length : Int) < (B.length : Int)) = false := by rw [decide_eq_false_iff_not]; omega
        have w5 : IntKind.wrap .i64 ((K : Int) + 1) = (K : Int) + 1 := IntWalk.i64_in _ (by omega)
        have e5 : ((B.length : Int) != if (K : Int) + 1 < (A.length : Int) then (K : Int) + 1 else (A.length : Int)) = false := by
          rw [bne_eq_false_iff_eq]
          split <;> omega
        repeat' with_reducible first
          | refine wp_regionS (seg_eval (by simp -dsimp -implicitDefEqProofs [e1, e2, e3, e4, e5, w5]; rfl) ?_)
          | refine wp_region (seg_eval (by simp -dsimp -implicitDefEqProofs [e1, e2, e3, e4, e5, w5]; rfl) ?_)
          | refine seg_fin ?_
          | refine seg_pan ?_
          | refine seg_both ?_ ?_
          | refine seg_case (fun x h => ?_) (fun h => ?_)
          | refine seg_gate (fun h => ?_) (fun h => ?_)
          | refine seg_need ?_ ?_
          | refine wp_assoc ?_ | refine wp_skipS ?_ | refine wp_retS ?_ | refine wp_exitS ?_ | refine wp_dropS (wp_eqT (by simp -dsimp -implicitDefEqProofs; rfl) ?_) | refine wp_sealS (by simp -dsimp -implicitDefEqProofs; rfl) ?_ | refine wp_seal (by simp -dsimp -implicitDefEqProofs; rfl) ?_ | refine wp_pack_out ?_ | refine wp_blockS ?_ | refine wp_skip' ?_ | refine wp_ret' ?_ | refine wp_exit' ?_ | refine wp_drop (wp_eqT (by simp -dsimp -implicitDefEqProofs; rfl) ?_) | refine wp_block' ?_
          | refine wp_condVS (by simp -dsimp -implicitDefEqProofs; rfl) ?_
          | refine wp_condV (by simp -dsimp -implicitDefEqProofs; rfl) ?_
          | refine cond_t ?_ | refine cond_f ?_ | refine cond_v (fun h => ?_) (fun h => ?_)
          | refine post_then ?_ | refine post_thenE ?_ | refine post_thenP ?_ | refine post_blkP ?_ | refine post_thenR ?_ | refine post_blkN ?_ | refine post_blkE ?_ | refine post_blkF rfl ?_ | refine post_blkR ?_
          | refine seg_eval (by simp -dsimp -implicitDefEqProofs [e1, e2, e3, e4, e5, w5]; rfl) ?_
        refine wp_loopR (fun ts mm => ts = [(7, .fsl 2 (l.map avCh)), (9, .fsl 2 (A.map avRo))] ∧ mm = []) (fun j ts mm => ∃ i : Nat, i + j = B.length ∧
          ts = [(7, .fsl 2 (l.map avCh)), (9, .fsl 2 (A.map avRo)), (10, .fsl 2 (B.map avRo)), (61, .v (.int .i64 B.length)), (62, .v (.int .i64 i))] ∧ mm = []) B.length ?_ ?_ ?_
        · exact ⟨[], [], by simp, by simp, 0, by omega, by simp, by simp⟩
        · rintro W hW j ts mm ⟨i, hi, rfl, rfl⟩
          by_cases hlt : i < B.length
          · obtain ⟨x, hx⟩ : ∃ x, A[i]? = some x := ⟨_, List.getElem?_eq_getElem (by omega)⟩
            have hy : B[i]? = some x := by rw [hP, List.getElem?_take, if_pos (by omega), hx]
            have hd : decide ((i : Int) < (B.length : Int)) = true := by rw [decide_eq_true_eq]; omega
            have hd2 : decide (i < B.length) = true := by simp [hlt]
            have hd3 : decide (i < A.length) = true := by simp; omega
            have h64 : IntKind.wrap .i64 ((i : Int) + 1) = ((i + 1 : Nat) : Int) := by rw [IntWalk.i64_in _ (by omega)]; rfl
            repeat' with_reducible first
              | refine wp_regionS (seg_eval (by simp -dsimp -implicitDefEqProofs [avRo, hd, hd2, hd3, h64, hx, hy]; rfl) ?_)
              | refine wp_region (seg_eval (by simp -dsimp -implicitDefEqProofs [avRo, hd, hd2, hd3, h64, hx, hy]; rfl) ?_)
              | refine wp_drawsS (seg_eval (by simp -dsimp -implicitDefEqProofs [avRo, hd, hd2, hd3, h64, hx, hy]; rfl) ?_)
              | refine wp_draws (seg_eval (by simp -dsimp -implicitDefEqProofs [avRo, hd, hd2, hd3, h64, hx, hy]; rfl) ?_)
              | refine seg_fin ?_
              | refine seg_pan ?_
              | refine seg_both ?_ ?_
              | refine seg_case (fun x h => ?_) (fun h => ?_)
              | refine seg_gate (fun h => ?_) (fun h => ?_)
              | refine seg_need ?_ ?_
              | refine wp_assoc ?_ | refine wp_skipS ?_ | refine wp_retS ?_ | refine wp_exitS ?_ | refine wp_dropS (wp_eqT (by simp -dsimp -implicitDefEqProofs; rfl) ?_) | refine wp_sealS (by simp -dsimp -implicitDefEqProofs; rfl) ?_ | refine wp_seal (by simp -dsimp -implicitDefEqProofs; rfl) ?_ | refine wp_pack_out ?_ | refine wp_blockS ?_ | refine wp_skip' ?_ | refine wp_ret' ?_ | refine wp_exit' ?_ | refine wp_drop (wp_eqT (by simp -dsimp -implicitDefEqProofs; rfl) ?_) | refine wp_block' ?_
              | refine wp_condVS (by simp -dsimp -implicitDefEqProofs; rfl) ?_
              | refine wp_condV (by simp -dsimp -implicitDefEqProofs; rfl) ?_
              | refine cond_t ?_ | refine cond_f ?_ | refine cond_v (fun h => ?_) (fun h => ?_)
              | refine post_then ?_ | refine post_thenE ?_ | refine post_thenP ?_ | refine post_blkP ?_ | refine post_thenR ?_ | refine post_blkN ?_ | refine post_blkE ?_ | refine post_blkF rfl ?_ | refine post_blkR ?_
              | refine seg_eval (by simp -dsimp -implicitDefEqProofs [avRo, hd, hd2, hd3, h64, hx, hy]; rfl) ?_
            all_goals first
              | omega
              | exact ⟨j - 1, by omega, [], [], by simp, by simp, i + 1, by omega, by simp [avRo], by simp⟩
              | trace_state
          · have hd : decide ((i : Int) < (B.length : Int)) = false := by rw [decide_eq_false_iff_not]; omega
            have hd2 : decide (i < B.length) = false := by simp [hlt]
            repeat' with_reducible first
              | refine wp_regionS (seg_eval (by simp -dsimp -implicitDefEqProofs [hd, hd2]; rfl) ?_)
              | refine wp_region (seg_eval (by simp -dsimp -implicitDefEqProofs [hd, hd2]; rfl) ?_)
              | refine wp_drawsS (seg_eval (by simp -dsimp -implicitDefEqProofs [hd, hd2]; rfl) ?_)
              | refine wp_draws (seg_eval (by simp -dsimp -implicitDefEqProofs [hd, hd2]; rfl) ?_)
              | refine seg_fin ?_
              | refine seg_pan ?_
              | refine seg_both ?_ ?_
              | refine seg_case (fun x h => ?_) (fun h => ?_)
              | refine seg_gate (fun h => ?_) (fun h => ?_)
              | refine seg_need ?_ ?_
              | refine wp_assoc ?_ | refine wp_skipS ?_ | refine wp_retS ?_ | refine wp_exitS ?_ | refine wp_dropS (wp_eqT (by simp -dsimp -implicitDefEqProofs; rfl) ?_) | refine wp_sealS (by simp -dsimp -implicitDefEqProofs; rfl) ?_ | refine wp_seal (by simp -dsimp -implicitDefEqProofs; rfl) ?_ | refine wp_pack_out ?_ | refine wp_blockS ?_ | refine wp_skip' ?_ | refine wp_ret' ?_ | refine wp_exit' ?_ | refine wp_drop (wp_eqT (by simp -dsimp -implicitDefEqProofs; rfl) ?_) | refine wp_block' ?_
              | refine wp_condVS (by simp -dsimp -implicitDefEqProofs; rfl) ?_
              | refine wp_condV (by simp -dsimp -implicitDefEqProofs; rfl) ?_
              | refine cond_t ?_ | refine cond_f ?_ | refine cond_v (fun h => ?_) (fun h => ?_)
              | refine post_then ?_ | refine post_thenE ?_ | refine post_thenP ?_ | refine post_blkP ?_ | refine post_thenR ?_ | refine post_blkN ?_ | refine post_blkE ?_ | refine post_blkF rfl ?_ | refine post_blkR ?_
              | refine seg_eval (by simp -dsimp -implicitDefEqProofs [hd, hd2]; rfl) ?_
            all_goals first
              | omega
              | exact hW _ _ ⟨by simp, by simp⟩
              | trace_state
        · rintro ts mm ⟨rfl, rfl⟩
          by_cases hAl : A.length ≤ l.length
          · have d1 : decide ((A.length : Int) ≤ (l.length : Int)) = true := by rw [decide_eq_true_eq]; omega
            have d2 : decide (A.length ≤ l.length) = true := by simp [hAl]
            obtain ⟨n, hn⟩ : ∃ n, A.length = n + 1 := ⟨A.length - 1, by omega⟩
            have hn1 : (pathG (v, m) l).length = n := by rw [hA] at hn; simpa using hn
            obtain ⟨⟨xv, xm⟩, hx⟩ : ∃ x, A[n]? = some x := ⟨_, List.getElem?_eq_getElem (by omega)⟩
            obtain ⟨⟨a, d⟩, hy⟩ : ∃ y, l[n]? = some y := ⟨_, List.getElem?_eq_getElem (by omega)⟩
            have hxm : xm < 65536 := hAlt _ (List.mem_of_getElem? hx)
            have hxm2 : (xm : Int) < 65536 := by omega
            obtain ⟨q0, q1⟩ := hok _ (List.mem_of_getElem? hy)
            simp only at q0 q1
            obtain ⟨d, rfl⟩ := Int.eq_ofNat_of_zero_le q0
            have hne := hend (xv, xm) (a, (d : Int)) (by rw [hn1, ← hA]; exact hx) (by rw [hn1]; exact hy)
            simp only [Int.toNat_natCast] at hne
            have c3 : ((applyV xv xm a d).2 == 0) = false := by rw [beq_eq_false_iff_ne]; exact hne
            have w6 : IntKind.wrap .i64 ((A.length : Int) - 1) = (n : Int) := by rw [IntWalk.i64_in _ (by omega)]; omega
            have k1 : n < l.length := by omega
            have k2 : n < A.length := by omega
            repeat' with_reducible first
              | refine wp_regionS (seg_eval (by simp -dsimp -implicitDefEqProofs [d1, d2]; rfl) ?_)
              | refine wp_region (seg_eval (by simp -dsimp -implicitDefEqProofs [d1, d2]; rfl) ?_)
              | refine seg_fin ?_
              | refine seg_pan ?_
              | refine seg_both ?_ ?_
              | refine seg_case (fun x h => ?_) (fun h => ?_)
              | refine seg_gate (fun h => ?_) (fun h => ?_)
              | refine seg_need ?_ ?_
              | refine wp_assoc ?_ | refine wp_skipS ?_ | refine wp_retS ?_ | refine wp_exitS ?_ | refine wp_dropS (wp_eqT (by simp -dsimp -implicitDefEqProofs; rfl) ?_) | refine wp_sealS (by simp -dsimp -implicitDefEqProofs; rfl) ?_ | refine wp_seal (by simp -dsimp -implicitDefEqProofs; rfl) ?_ | refine wp_pack_out ?_ | refine wp_blockS ?_ | refine wp_skip' ?_ | refine wp_ret' ?_ | refine wp_exit' ?_ | refine wp_drop (wp_eqT (by simp -dsimp -implicitDefEqProofs; rfl) ?_) | refine wp_block' ?_
              | refine wp_condVS (by simp -dsimp -implicitDefEqProofs; rfl) ?_
              | refine wp_condV (by simp -dsimp -implicitDefEqProofs; rfl) ?_
              | refine cond_t ?_ | refine cond_f ?_ | refine cond_v (fun h => ?_) (fun h => ?_)
              | refine post_then ?_ | refine post_thenE ?_ | refine post_thenP ?_ | refine post_blkP ?_ | refine post_thenR ?_ | refine post_blkN ?_ | refine post_blkE ?_ | refine post_blkF rfl ?_ | refine post_blkR ?_
              | refine seg_eval (by simp -dsimp -implicitDefEqProofs [d1, d2]; rfl) ?_
            refine wp_drawsRS (fun ts mm => ts = [(13, .v (.int .i64 (applyV xv xm a d).2))] ∧ mm = []) ?_ ?_
            · intro V hV
              repeat' with_reducible first
                | refine wp_regionS (seg_eval (by simp -dsimp -implicitDefEqProofs [avRo, avCh, spApplyV, w6, hx, hy, hxm2, q1, Int.toNat_natCast]; rfl) ?_)
                | refine wp_region (seg_eval (by simp -dsimp -implicitDefEqProofs [avRo, avCh, spApplyV, w6, hx, hy, hxm2, q1, Int.toNat_natCast]; rfl) ?_)
                | refine wp_drawsS (seg_eval (by simp -dsimp -implicitDefEqProofs [avRo, avCh, spApplyV, w6, hx, hy, hxm2, q1, Int.toNat_natCast]; rfl) ?_)
                | refine wp_draws (seg_eval (by simp -dsimp -implicitDefEqProofs [avRo, avCh, spApplyV, w6, hx, hy, hxm2, q1, Int.toNat_natCast]; rfl) ?_)
                | refine seg_fin ?_
                | refine seg_pan ?_
                | refine seg_both ?_ ?_
                | refine seg_case (fun x h => ?_) (fun h => ?_)
                | refine seg_gate (fun h => ?_) (fun h => ?_)
                | refine seg_need ?_ ?_
                | refine wp_assoc ?_ | refine wp_skipS ?_ | refine wp_retS ?_ | refine wp_exitS ?_ | refine wp_dropS (wp_eqT (by simp -dsimp -implicitDefEqProofs; rfl) ?_) | refine wp_sealS (by simp -dsimp -implicitDefEqProofs; rfl) ?_ | refine wp_seal (by simp -dsimp -implicitDefEqProofs; rfl) ?_ | refine wp_pack_out ?_ | refine wp_blockS ?_ | refine wp_skip' ?_ | refine wp_ret' ?_ | refine wp_exit' ?_ | refine wp_drop (wp_eqT (by simp -dsimp -implicitDefEqProofs; rfl) ?_) | refine wp_block' ?_
                | refine wp_condVS (by simp -dsimp -implicitDefEqProofs; rfl) ?_
                | refine wp_condV (by simp -dsimp -implicitDefEqProofs; rfl) ?_
                | refine cond_t ?_ | refine cond_f ?_ | refine cond_v (fun h => ?_) (fun h => ?_)
                | refine post_then ?_ | refine post_thenE ?_ | refine post_thenP ?_ | refine post_blkP ?_ | refine post_thenR ?_ | refine post_blkN ?_ | refine post_blkE ?_ | refine post_blkF rfl ?_ | refine post_blkR ?_
                | refine seg_eval (by simp -dsimp -implicitDefEqProofs [avRo, avCh, spApplyV, w6, hx, hy, hxm2, q1, Int.toNat_natCast]; rfl) ?_
              all_goals first
                | omega
                | exact hV _ _ ⟨[], [], rfl, rfl, by simp, by simp⟩
                | trace_state
            · rintro ts mm ⟨rfl, rfl⟩
              repeat' with_reducible first
                | refine wp_regionS (seg_eval (by simp -dsimp -implicitDefEqProofs [c3]; rfl) ?_)
                | refine wp_region (seg_eval (by simp -dsimp -implicitDefEqProofs [c3]; rfl) ?_)
                | refine wp_drawsS (seg_eval (by simp -dsimp -implicitDefEqProofs [c3]; rfl) ?_)
                | refine wp_draws (seg_eval (by simp -dsimp -implicitDefEqProofs [c3]; rfl) ?_)
                | refine seg_fin ?_
                | refine seg_pan ?_
                | refine seg_both ?_ ?_
                | refine seg_case (fun x h => ?_) (fun h => ?_)
                | refine seg_gate (fun h => ?_) (fun h => ?_)
                | refine seg_need ?_ ?_
                | refine wp_assoc ?_ | refine wp_skipS ?_ | refine wp_retS ?_ | refine wp_exitS ?_ | refine wp_dropS (wp_eqT (by simp -dsimp -implicitDefEqProofs; rfl) ?_) | refine wp_sealS (by simp -dsimp -implicitDefEqProofs; rfl) ?_ | refine wp_seal (by simp -dsimp -implicitDefEqProofs; rfl) ?_ | refine wp_pack_out ?_ | refine wp_blockS ?_ | refine wp_skip' ?_ | refine wp_ret' ?_ | refine wp_exit' ?_ | refine wp_drop (wp_eqT (by simp -dsimp -implicitDefEqProofs; rfl) ?_) | refine wp_block' ?_
                | refine wp_condVS (by simp -dsimp -implicitDefEqProofs; rfl) ?_
                | refine wp_condV (by simp -dsimp -implicitDefEqProofs; rfl) ?_
                | refine cond_t ?_ | refine cond_f ?_ | refine cond_v (fun h => ?_) (fun h => ?_)
                | refine post_then ?_ | refine post_thenE ?_ | refine post_thenP ?_ | refine post_blkP ?_ | refine post_thenR ?_ | refine post_blkN ?_ | refine post_blkE ?_ | refine post_blkF rfl ?_ | refine post_blkR ?_
                | refine seg_eval (by simp -dsimp -implicitDefEqProofs [c3]; rfl) ?_
              all_goals first
                | omega
                | exact post_fin rfl rfl ⟨[], [], rfl, rfl, rfl, rfl⟩
                | trace_state
          · have d1 : decide ((A.length : Int) ≤ (l.length : Int)) = false := by rw [decide_eq_false_iff_not]; omega
            have d2 : decide (A.length ≤ l.length) = false := by simp; omega
            repeat' with_reducible first
              | refine wp_regionS (seg_eval (by simp -dsimp -implicitDefEqProofs [d1, d2]; rfl) ?_)
              | refine wp_region (seg_eval (by simp -dsimp -implicitDefEqProofs [d1, d2]; rfl) ?_)
              | refine wp_drawsS (seg_eval (by simp -dsimp -implicitDefEqProofs [d1, d2]; rfl) ?_)
              | refine wp_draws (seg_eval (by simp -dsimp -implicitDefEqProofs [d1, d2]; rfl) ?_)
              | refine seg_fin ?_
              | refine seg_pan ?_
              | refine seg_both ?_ ?_
              | refine seg_case (fun x h => ?_) (fun h => ?_)
              | refine seg_gate (fun h => ?_) (fun h => ?_)
              | refine seg_need ?_ ?_
              | refine wp_assoc ?_ | refine wp_skipS ?_ | refine wp_retS ?_ | refine wp_exitS ?_ | refine wp_dropS (wp_eqT (by simp -dsimp -implicitDefEqProofs; rfl) ?_) | refine wp_sealS (by simp -dsimp -implicitDefEqProofs; rfl) ?_ | refine wp_seal (by simp -dsimp -implicitDefEqProofs; rfl) ?_ | refine wp_pack_out ?_ | refine wp_blockS ?_ | refine wp_skip' ?_ | refine wp_ret' ?_ | refine wp_exit' ?_ | refine wp_drop (wp_eqT (by simp -dsimp -implicitDefEqProofs; rfl) ?_) | refine wp_block' ?_
              | refine wp_condVS (by simp -dsimp -implicitDefEqProofs; rfl) ?_
              | refine wp_condV (by simp -dsimp -implicitDefEqProofs; rfl) ?_
              | refine cond_t ?_ | refine cond_f ?_ | refine cond_v (fun h => ?_) (fun h => ?_)
              | refine post_then ?_ | refine post_thenE ?_ | refine post_thenP ?_ | refine post_blkP ?_ | refine post_thenR ?_ | refine post_blkN ?_ | refine post_blkE ?_ | refine post_blkF rfl ?_ | refine post_blkR ?_
              | refine seg_eval (by simp -dsimp -implicitDefEqProofs [d1, d2]; rfl) ?_
            all_goals first
              | omega
              | exact post_fin rfl rfl ⟨[], [], rfl, rfl, rfl, rfl⟩
              | trace_state
  · have c1 : decide ((100 : Int) < (l.length : Int)) = true := by rw [decide_eq_true_eq]; omega
    have c2 : decide (100 < l.length) = true := by simp; omega
    repeat' with_reducible first
      | refine wp_regionS (seg_eval (by simp -dsimp -implicitDefEqProofs [spYes, c1, c2]; rfl) ?_)
      | refine wp_region (seg_eval (by simp -dsimp -implicitDefEqProofs [spYes, c1, c2]; rfl) ?_)
      | refine wp_drawsS (seg_eval (by simp -dsimp -implicitDefEqProofs [spYes, c1, c2]; rfl) ?_)
      | refine wp_draws (seg_eval (by simp -dsimp -implicitDefEqProofs [spYes, c1, c2]; rfl) ?_)
      | refine seg_fin ?_
      | refine seg_pan ?_
      | refine seg_both ?_ ?_
      | refine seg_case (fun x h => ?_) (fun h => ?_)
      | refine seg_gate (fun h => ?_) (fun h => ?_)
      | refine seg_need ?_ ?_
      | refine wp_assoc ?_ | refine wp_skipS ?_ | refine wp_retS ?_ | refine wp_exitS ?_ | refine wp_dropS (wp_eqT (by simp -dsimp -implicitDefEqProofs; rfl) ?_) | refine wp_sealS (by simp -dsimp -implicitDefEqProofs; rfl) ?_ | refine wp_seal (by simp -dsimp -implicitDefEqProofs; rfl) ?_ | refine wp_pack_out ?_ | refine wp_blockS ?_ | refine wp_skip' ?_ | refine wp_ret' ?_ | refine wp_exit' ?_ | refine wp_drop (wp_eqT (by simp -dsimp -implicitDefEqProofs; rfl) ?_) | refine wp_block' ?_
      | refine wp_condVS (by simp -dsimp -implicitDefEqProofs; rfl) ?_
      | refine wp_condV (by simp -dsimp -implicitDefEqProofs; rfl) ?_
      | refine cond_t ?_ | refine cond_f ?_ | refine cond_v (fun h => ?_) (fun h => ?_)
      | refine post_then ?_ | refine post_thenE ?_ | refine post_thenP ?_ | refine post_blkP ?_ | refine post_thenR ?_ | refine post_blkN ?_ | refine post_blkE ?_ | refine post_blkF rfl ?_ | refine post_blkR ?_
      | refine seg_eval (by simp -dsimp -implicitDefEqProofs [spYes, c1, c2]; rfl) ?_
    all_goals first
      | omega
      | exact post_fin rfl rfl ⟨[], [], rfl, rfl, rfl, rfl⟩
      | trace_state
end Go.Proofs.YtjmgnodeohmboaaDoor.Am
