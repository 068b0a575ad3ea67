import Derived.Test.YtifchnkhnphibaaF32
namespace Go.Proofs.Ytifchnkhnphibaa.Am
set_option linter.unusedSimpArgs false
set_option linter.unusedVariables false
open Go Go.Proofs
attribute [local irreducible] wpA
attribute [-simp] splice

/-! ### The body of bytes -/
def fillV (w : List Nat) (i : Nat) : List Nat := w.take i ++ List.replicate (16 - i) 0
theorem fillV_length {w : List Nat} (h : w.length = 16) {i : Nat} (hi : i ≤ 16) : (fillV w i).length = 16 := by simp [fillV, h]; omega
theorem fillV_set {w : List Nat} (h : w.length = 16) {i x : Nat} (hi : w[i]? = some x) : (fillV w i).set i x = fillV w (i + 1) := by
  have hl := (List.getElem?_eq_some_iff.1 hi).1
  unfold fillV
  rw [List.set_append_right _ _ (by rw [List.length_take]; omega)]
  simp only [List.length_take, Nat.min_eq_left (Nat.le_of_lt hl), Nat.sub_self]
  rw [take_snoc hi, show 16 - i = (16 - (i + 1)) + 1 by omega, List.replicate_succ, List.set_cons_zero, List.append_assoc]
  rfl
theorem fillV_zero (w : List Nat) : fillV w 0 = zV := by simp [fillV, zV]
theorem fillV_all {w : List Nat} (h : w.length = 16) : fillV w 16 = w := by simp [fillV, List.take_of_length_le (show w.length ≤ 16 by omega)]
theorem min_if (m n : Nat) : (if (m : Int) < (n : Int) then (m : Int) else (n : Int)) = ((min n m : Nat) : Int) := by split <;> omega
theorem min_nat (m n : Nat) : (if m < n then (m : Int) else (n : Int)) = ((min n m : Nat) : Int) := by split <;> omega

theorem bd_no {s : ByteArray} (h : bdDec s = none) : bdF s = zeroB ∧ bdG s = 4 := by simp [bdF, bdG, h]
theorem bd_yes {s : ByteArray} {b : Bdy} (h : bdDec s = some b) : bdF s = b ∧ bdG s = 0 := by simp [bdF, bdG, h]

theorem zeroB_eq : zeroB = ⟨0, zV, ⟨#[]⟩⟩ := rfl
theorem post_bd {rs : List ARes} {b : Bdy} {e : Int} {ts : Tm} {m : List Blk} (h1 : Am.resAll ts m rs = some [avB b, .v (.int .i64 e)]) : finQ 0 rs (.ret (.tup [avB b, .v (.int .i64 e)])) [] .ret ts m :=
  post_fin h1 rfl ⟨[], [], by simp [avB], by simp, by simp [avB], by simp⟩

def spBdD : Spec
  | [.v (.string s)], [] => some (.ret (.tup [avB (bdF s), .v (.int .i64 (bdG s))]), [])
  | _, _ => none

set_option maxHeartbeats 8000000 in
theorem bdDec_ok : CallOk Try.prog 16 spBdD := by
  refine ok_16 E32_ok spBdD fun args mem r mem1 h => ?_
  unfold spBdD at h
  split at h
  case h_2 => cases h
  rename_i s
  cases h
  unfold ac_16
  cases hd : dec (tb s) with
  | none =>
    obtain ⟨e1, e2⟩ := bd_no (bdDec_none hd)
    rw [e1, e2]
    have d1 : decL s.data.toList = [] := by unfold decL; rw [show s.data.toList = tb s from rfl, hd]; rfl
    have d2 : decE s.data.toList = 4 := by unfold decE; rw [show s.data.toList = tb s from rfl, hd]; rfl
    repeat' first
        | with_reducible refine wp_regionS (seg_eval (by simp -dsimp -implicitDefEqProofs [d1, d2]; rfl) ?_)
        | with_reducible refine wp_region (seg_eval (by simp -dsimp -implicitDefEqProofs [d1, d2]; rfl) ?_)
        | with_reducible refine wp_drawsS (seg_eval (by simp -dsimp -implicitDefEqProofs [d1, d2]; rfl) ?_)
        | with_reducible refine wp_draws (seg_eval (by simp -dsimp -implicitDefEqProofs [d1, d2]; rfl) ?_)
        | with_reducible refine seg_fin ?_
        | with_reducible refine seg_pan ?_
        | with_reducible refine seg_both ?_ ?_
        | with_reducible refine seg_case (fun x h => ?_) (fun h => ?_)
        | with_reducible refine seg_gate (fun h => ?_) (fun h => ?_)
        | with_reducible refine seg_need ?_ ?_
        | with_reducible refine wp_assoc ?_ | with_reducible refine wp_skipS ?_ | with_reducible refine wp_retS ?_ | with_reducible refine wp_exitS ?_ | with_reducible refine wp_dropS (wp_eqT (by simp -dsimp -implicitDefEqProofs [d1, d2]; rfl) ?_) | with_reducible refine wp_sealS (by simp -dsimp -implicitDefEqProofs [d1, d2]; rfl) ?_ | with_reducible refine wp_seal (by simp -dsimp -implicitDefEqProofs [d1, d2]; rfl) ?_ | with_reducible refine wp_blockS ?_ | with_reducible refine wp_skip' ?_ | with_reducible refine wp_ret' ?_ | with_reducible refine wp_exit' ?_ | with_reducible refine wp_drop (wp_eqT (by simp -dsimp -implicitDefEqProofs [d1, d2]; rfl) ?_) | with_reducible refine wp_block' ?_
        | with_reducible refine wp_condVS (by simp -dsimp -implicitDefEqProofs [d1, d2]; rfl) ?_
        | with_reducible refine wp_condV (by simp -dsimp -implicitDefEqProofs [d1, d2]; rfl) ?_
        | with_reducible refine cond_t ?_ | with_reducible refine cond_f ?_ | with_reducible refine cond_v (fun h => ?_) (fun h => ?_)
        | with_reducible refine post_then ?_ | with_reducible refine post_thenE ?_ | with_reducible refine post_thenP ?_ | with_reducible refine post_blkP ?_ | with_reducible refine post_thenR ?_ | with_reducible refine post_blkN ?_ | with_reducible refine post_blkE ?_ | with_reducible refine post_blkF rfl ?_ | with_reducible refine post_blkR ?_
        | with_reducible refine seg_eval (by simp -dsimp -implicitDefEqProofs [d1, d2]; rfl) ?_
    all_goals first
      | omega
      | exact post_bd (by simp [rs_16, avB, zeroB_eq])
      | trace_state
  | some l =>
    have d1 : decL s.data.toList = l := by unfold decL; rw [show s.data.toList = tb s from rfl, hd]; rfl
    have d2 : decE s.data.toList = 0 := by unfold decE; rw [show s.data.toList = tb s from rfl, hd]; rfl
    have hl2 : l.length ≤ 200 := (encE_zero (enc_dec hd).1).2.1
    by_cases hk : l.map Fld.kind = bdK
    · have hm0 := (encE_zero (enc_dec hd).1).1
      obtain ⟨k, v, t, hv, hL⟩ := kinds_bd hk hm0
      have hK : isK l bdK = true := by simp [isK, hk]
      have hl18 : l.length = 18 := by rw [hL]; simp [hv]
      have hc := bdDec_clip1 hv (hL ▸ hd)
      have hl0 : l[0]? = some (nF k) := by rw [hL]; rfl
      have hl17 : l[17]? = some (tF t) := by
        rw [hL, List.getElem?_cons_succ, List.getElem?_append_right (by simp [hv])]
        simp [hv]
      have hli : ∀ (i x : Nat), v[i]? = some x → l[i + 1]? = some (nF x) := fun i x hx => by
        rw [hL, List.getElem?_cons_succ, List.getElem?_append_left (by have := (List.getElem?_eq_some_iff.1 hx).1; simp; omega), List.getElem?_map, hx]
        rfl
      have m0 : min k 4 ≤ 4 := Nat.min_le_right _ _
      have x0 : (if (4 : Int) < (k : Int) then (4 : Int) else (k : Int)) = ((min k 4 : Nat) : Int) := min_if 4 k
      have hcl : (clipP 1001 v).length = 16 := by rw [clipP_length, hv]
      have hci : ∀ (i x : Nat), v[i]? = some x → (clipP 1001 v)[i]? = some (min x 1001) := fun i x h => clipP_get h
      have hco : okV (clipP 1001 v) := ⟨hcl, fun n hn => by have := clipP_le n hn; omega⟩
      generalize min k 4 = k4 at m0 x0 hc
      generalize clipP 1001 v = w at hc hcl hci hco
      have w4 : IntKind.wrap .i64 (k4 : Int) = (k4 : Int) := IntWalk.i64_in _ (by omega)
      clear hL hm0 hd hk
      repeat' first
          | with_reducible refine wp_regionS (seg_eval (by simp -dsimp -implicitDefEqProofs [d1, d2, hK, hl2, hl0, hl17, av1, nF, tF, x0, w4, zV_length]; rfl) ?_)
          | with_reducible refine wp_region (seg_eval (by simp -dsimp -implicitDefEqProofs [d1, d2, hK, hl2, hl0, hl17, av1, nF, tF, x0, w4, zV_length]; rfl) ?_)
          | with_reducible refine wp_drawsS (seg_eval (by simp -dsimp -implicitDefEqProofs [d1, d2, hK, hl2, hl0, hl17, av1, nF, tF, x0, w4, zV_length]; rfl) ?_)
          | with_reducible refine wp_draws (seg_eval (by simp -dsimp -implicitDefEqProofs [d1, d2, hK, hl2, hl0, hl17, av1, nF, tF, x0, w4, zV_length]; rfl) ?_)
          | with_reducible refine seg_fin ?_
          | with_reducible refine seg_pan ?_
          | with_reducible refine seg_both ?_ ?_
          | with_reducible refine seg_case (fun x h => ?_) (fun h => ?_)
          | with_reducible refine seg_gate (fun h => ?_) (fun h => ?_)
          | with_reducible refine seg_need ?_ ?_
          | with_reducible refine wp_assoc ?_ | with_reducible refine wp_skipS ?_ | with_reducible refine wp_retS ?_ | with_reducible refine wp_exitS ?_ | with_reducible refine wp_dropS (wp_eqT (by simp -dsimp -implicitDefEqProofs [d1, d2, hK, hl2, hl0, hl17, av1, nF, tF, x0, w4, zV_length]; rfl) ?_) | with_reducible refine wp_sealS (by simp -dsimp -implicitDefEqProofs [d1, d2, hK, hl2, hl0, hl17, av1, nF, tF, x0, w4, zV_length]; rfl) ?_ | with_reducible refine wp_seal (by simp -dsimp -implicitDefEqProofs [d1, d2, hK, hl2, hl0, hl17, av1, nF, tF, x0, w4, zV_length]; rfl) ?_ | with_reducible refine wp_blockS ?_ | with_reducible refine wp_skip' ?_ | with_reducible refine wp_ret' ?_ | with_reducible refine wp_exit' ?_ | with_reducible refine wp_drop (wp_eqT (by simp -dsimp -implicitDefEqProofs [d1, d2, hK, hl2, hl0, hl17, av1, nF, tF, x0, w4, zV_length]; rfl) ?_) | with_reducible refine wp_block' ?_
          | with_reducible refine wp_condVS (by simp -dsimp -implicitDefEqProofs [d1, d2, hK, hl2, hl0, hl17, av1, nF, tF, x0, w4, zV_length]; rfl) ?_
          | with_reducible refine wp_condV (by simp -dsimp -implicitDefEqProofs [d1, d2, hK, hl2, hl0, hl17, av1, nF, tF, x0, w4, zV_length]; rfl) ?_
          | with_reducible refine cond_t ?_ | with_reducible refine cond_f ?_ | with_reducible refine cond_v (fun h => ?_) (fun h => ?_)
          | with_reducible refine post_then ?_ | with_reducible refine post_thenE ?_ | with_reducible refine post_thenP ?_ | with_reducible refine post_blkP ?_ | with_reducible refine post_thenR ?_ | with_reducible refine post_blkN ?_ | with_reducible refine post_blkE ?_ | with_reducible refine post_blkF rfl ?_ | with_reducible refine post_blkR ?_
          | with_reducible refine seg_eval (by simp -dsimp -implicitDefEqProofs [d1, d2, hK, hl2, hl0, hl17, av1, nF, tF, x0, w4, zV_length]; rfl) ?_
      all_goals try omega
      refine wp_loop' (fun j ts mm => ∃ i : Nat, i + j = 16 ∧ ts = [(2, .ptr 0 0 0), (4, .fsl 4 (l.map av1)), (6, .ptr 1 0 0), (34, .v (.int .i64 i))] ∧ mm = [.var (bc 0 zV ⟨#[]⟩), .var (bc k4 (fillV w i) t)]) 16 ?_ ?_
      · exact ⟨[], [0, 1], by simp, by simp, 0, by omega, by simp [av1], by simp [fillV_zero]⟩
      · rintro j ts mm ⟨i, hi, rfl, rfl⟩
        have hfl := fillV_length hcl (i := i) (by omega)
        by_cases hlt : i < 16
        · obtain ⟨x, hx⟩ : ∃ x, v[i]? = some x := ⟨_, List.getElem?_eq_getElem (by omega)⟩
          have hlx := hli i x hx
          have hwx := fillV_set hcl (hci i x hx)
          have y0 : (if (1001 : Int) < (x : Int) then (1001 : Int) else (x : Int)) = ((min x 1001 : Nat) : Int) := min_if 1001 x
          have m1 : min x 1001 ≤ 1001 := Nat.min_le_right _ _
          generalize min x 1001 = x1 at hwx y0 m1
          have wx : IntKind.wrap .u16 (x1 : Int) = (x1 : Int) := IntWalk.u16_in _ (by omega)
          have hd2 : decide (i < 16) = true := by simp [hlt]
          have hd3 : decide ((i : Int) < 16) = true := by rw [decide_eq_true_eq]; omega
          have h64 : IntKind.wrap .i64 ((i : Int) + 1) = ((i + 1 : Nat) : Int) := by rw [IntWalk.i64_in _ (by omega)]; rfl
          have hto : ((i : Int) + 1).toNat = i + 1 := by omega
          have hlt18 : 1 + i + 1 ≤ 18 := by omega
          repeat' first
              | with_reducible refine wp_regionS (seg_eval (by simp -dsimp -implicitDefEqProofs [hd2, hd3, h64, hto, hlx, av1, nF, y0, wx, hfl, hlt, hlt18, hwx]; rfl) ?_)
              | with_reducible refine wp_region (seg_eval (by simp -dsimp -implicitDefEqProofs [hd2, hd3, h64, hto, hlx, av1, nF, y0, wx, hfl, hlt, hlt18, hwx]; rfl) ?_)
              | with_reducible refine wp_drawsS (seg_eval (by simp -dsimp -implicitDefEqProofs [hd2, hd3, h64, hto, hlx, av1, nF, y0, wx, hfl, hlt, hlt18, hwx]; rfl) ?_)
              | with_reducible refine wp_draws (seg_eval (by simp -dsimp -implicitDefEqProofs [hd2, hd3, h64, hto, hlx, av1, nF, y0, wx, hfl, hlt, hlt18, hwx]; rfl) ?_)
              | with_reducible refine seg_fin ?_
              | with_reducible refine seg_pan ?_
              | with_reducible refine seg_both ?_ ?_
              | with_reducible refine seg_case (fun x h => ?_) (fun h => ?_)
              | with_reducible refine seg_gate (fun h => ?_) (fun h => ?_)
              | with_reducible refine seg_need ?_ ?_
              | with_reducible refine wp_assoc ?_ | with_reducible refine wp_skipS ?_ | with_reducible refine wp_retS ?_ | with_reducible refine wp_exitS ?_ | with_reducible refine wp_dropS (wp_eqT (by simp -dsimp -implicitDefEqProofs [hd2, hd3, h64, hto, hlx, av1, nF, y0, wx, hfl, hlt, hlt18, hwx]; rfl) ?_) | with_reducible refine wp_sealS (by simp -dsimp -implicitDefEqProofs [hd2, hd3, h64, hto, hlx, av1, nF, y0, wx, hfl, hlt, hlt18, hwx]; rfl) ?_ | with_reducible refine wp_seal (by simp -dsimp -implicitDefEqProofs [hd2, hd3, h64, hto, hlx, av1, nF, y0, wx, hfl, hlt, hlt18, hwx]; rfl) ?_ | with_reducible refine wp_blockS ?_ | with_reducible refine wp_skip' ?_ | with_reducible refine wp_ret' ?_ | with_reducible refine wp_exit' ?_ | with_reducible refine wp_drop (wp_eqT (by simp -dsimp -implicitDefEqProofs [hd2, hd3, h64, hto, hlx, av1, nF, y0, wx, hfl, hlt, hlt18, hwx]; rfl) ?_) | with_reducible refine wp_block' ?_
              | with_reducible refine wp_condVS (by simp -dsimp -implicitDefEqProofs [hd2, hd3, h64, hto, hlx, av1, nF, y0, wx, hfl, hlt, hlt18, hwx]; rfl) ?_
              | with_reducible refine wp_condV (by simp -dsimp -implicitDefEqProofs [hd2, hd3, h64, hto, hlx, av1, nF, y0, wx, hfl, hlt, hlt18, hwx]; rfl) ?_
              | with_reducible refine cond_t ?_ | with_reducible refine cond_f ?_ | with_reducible refine cond_v (fun h => ?_) (fun h => ?_)
              | with_reducible refine post_then ?_ | with_reducible refine post_thenE ?_ | with_reducible refine post_thenP ?_ | with_reducible refine post_blkP ?_ | with_reducible refine post_thenR ?_ | with_reducible refine post_blkN ?_ | with_reducible refine post_blkE ?_ | with_reducible refine post_blkF rfl ?_ | with_reducible refine post_blkR ?_
              | with_reducible refine seg_eval (by simp -dsimp -implicitDefEqProofs [hd2, hd3, h64, hto, hlx, av1, nF, y0, wx, hfl, hlt, hlt18, hwx]; rfl) ?_
          all_goals first
            | omega
            | exact ⟨j - 1, by omega, [], [0, 1], by simp, by simp, i + 1, by omega, by simp [av1], by simp⟩
            | trace_state
        · have hd2 : decide (i < 16) = false := by simp [hlt]
          have hd3 : decide ((i : Int) < 16) = false := by rw [decide_eq_false_iff_not]; omega
          have hi16 : i = 16 := by omega
          subst hi16
          rw [fillV_all hcl] at *
          cases hr : mayB ⟨k4, w, t⟩ with
          | false =>
            rw [hr] at hc
            simp only [Bool.false_eq_true, if_false] at hc
            obtain ⟨e1, e2⟩ := bd_no hc
            rw [e1, e2]
            repeat' first
                | with_reducible refine wp_regionS (seg_eval (by simp -dsimp -implicitDefEqProofs [hd2, hd3, hcl, hco, hr]; rfl) ?_)
                | with_reducible refine wp_region (seg_eval (by simp -dsimp -implicitDefEqProofs [hd2, hd3, hcl, hco, hr]; rfl) ?_)
                | with_reducible refine wp_drawsS (seg_eval (by simp -dsimp -implicitDefEqProofs [hd2, hd3, hcl, hco, hr]; rfl) ?_)
                | with_reducible refine wp_draws (seg_eval (by simp -dsimp -implicitDefEqProofs [hd2, hd3, hcl, hco, hr]; rfl) ?_)
                | with_reducible refine seg_fin ?_
                | with_reducible refine seg_pan ?_
                | with_reducible refine seg_both ?_ ?_
                | with_reducible refine seg_case (fun x h => ?_) (fun h => ?_)
                | with_reducible refine seg_gate (fun h => ?_) (fun h => ?_)
                | with_reducible refine seg_need ?_ ?_
                | with_reducible refine wp_assoc ?_ | with_reducible refine wp_skipS ?_ | with_reducible refine wp_retS ?_ | with_reducible refine wp_exitS ?_ | with_reducible refine wp_dropS (wp_eqT (by simp -dsimp -implicitDefEqProofs [hd2, hd3, hcl, hco, hr]; rfl) ?_) | with_reducible refine wp_sealS (by simp -dsimp -implicitDefEqProofs [hd2, hd3, hcl, hco, hr]; rfl) ?_ | with_reducible refine wp_seal (by simp -dsimp -implicitDefEqProofs [hd2, hd3, hcl, hco, hr]; rfl) ?_ | with_reducible refine wp_blockS ?_ | with_reducible refine wp_skip' ?_ | with_reducible refine wp_ret' ?_ | with_reducible refine wp_exit' ?_ | with_reducible refine wp_drop (wp_eqT (by simp -dsimp -implicitDefEqProofs [hd2, hd3, hcl, hco, hr]; rfl) ?_) | with_reducible refine wp_block' ?_
                | with_reducible refine wp_condVS (by simp -dsimp -implicitDefEqProofs [hd2, hd3, hcl, hco, hr]; rfl) ?_
                | with_reducible refine wp_condV (by simp -dsimp -implicitDefEqProofs [hd2, hd3, hcl, hco, hr]; rfl) ?_
                | with_reducible refine cond_t ?_ | with_reducible refine cond_f ?_ | with_reducible refine cond_v (fun h => ?_) (fun h => ?_)
                | with_reducible refine post_then ?_ | with_reducible refine post_thenE ?_ | with_reducible refine post_thenP ?_ | with_reducible refine post_blkP ?_ | with_reducible refine post_thenR ?_ | with_reducible refine post_blkN ?_ | with_reducible refine post_blkE ?_ | with_reducible refine post_blkF rfl ?_ | with_reducible refine post_blkR ?_
                | with_reducible refine seg_eval (by simp -dsimp -implicitDefEqProofs [hd2, hd3, hcl, hco, hr]; rfl) ?_
            all_goals first
              | omega
              | exact post_bd (by simp [rs_16, avB, zeroB_eq])
              | trace_state
          | true =>
            rw [hr] at hc
            simp only [if_true] at hc
            obtain ⟨e1, e2⟩ := bd_yes hc
            rw [e1, e2]
            repeat' first
                | with_reducible refine wp_regionS (seg_eval (by simp -dsimp -implicitDefEqProofs [hd2, hd3, hcl, hco, hr]; rfl) ?_)
                | with_reducible refine wp_region (seg_eval (by simp -dsimp -implicitDefEqProofs [hd2, hd3, hcl, hco, hr]; rfl) ?_)
                | with_reducible refine wp_drawsS (seg_eval (by simp -dsimp -implicitDefEqProofs [hd2, hd3, hcl, hco, hr]; rfl) ?_)
                | with_reducible refine wp_draws (seg_eval (by simp -dsimp -implicitDefEqProofs [hd2, hd3, hcl, hco, hr]; rfl) ?_)
                | with_reducible refine seg_fin ?_
                | with_reducible refine seg_pan ?_
                | with_reducible refine seg_both ?_ ?_
                | with_reducible refine seg_case (fun x h => ?_) (fun h => ?_)
                | with_reducible refine seg_gate (fun h => ?_) (fun h => ?_)
                | with_reducible refine seg_need ?_ ?_
                | with_reducible refine wp_assoc ?_ | with_reducible refine wp_skipS ?_ | with_reducible refine wp_retS ?_ | with_reducible refine wp_exitS ?_ | with_reducible refine wp_dropS (wp_eqT (by simp -dsimp -implicitDefEqProofs [hd2, hd3, hcl, hco, hr]; rfl) ?_) | with_reducible refine wp_sealS (by simp -dsimp -implicitDefEqProofs [hd2, hd3, hcl, hco, hr]; rfl) ?_ | with_reducible refine wp_seal (by simp -dsimp -implicitDefEqProofs [hd2, hd3, hcl, hco, hr]; rfl) ?_ | with_reducible refine wp_blockS ?_ | with_reducible refine wp_skip' ?_ | with_reducible refine wp_ret' ?_ | with_reducible refine wp_exit' ?_ | with_reducible refine wp_drop (wp_eqT (by simp -dsimp -implicitDefEqProofs [hd2, hd3, hcl, hco, hr]; rfl) ?_) | with_reducible refine wp_block' ?_
                | with_reducible refine wp_condVS (by simp -dsimp -implicitDefEqProofs [hd2, hd3, hcl, hco, hr]; rfl) ?_
                | with_reducible refine wp_condV (by simp -dsimp -implicitDefEqProofs [hd2, hd3, hcl, hco, hr]; rfl) ?_
                | with_reducible refine cond_t ?_ | with_reducible refine cond_f ?_ | with_reducible refine cond_v (fun h => ?_) (fun h => ?_)
                | with_reducible refine post_then ?_ | with_reducible refine post_thenE ?_ | with_reducible refine post_thenP ?_ | with_reducible refine post_blkP ?_ | with_reducible refine post_thenR ?_ | with_reducible refine post_blkN ?_ | with_reducible refine post_blkE ?_ | with_reducible refine post_blkF rfl ?_ | with_reducible refine post_blkR ?_
                | with_reducible refine seg_eval (by simp -dsimp -implicitDefEqProofs [hd2, hd3, hcl, hco, hr]; rfl) ?_
            all_goals first
              | omega
              | exact post_bd (by simp [rs_16, avB, hcl])
              | trace_state
    · obtain ⟨e1, e2⟩ := bd_no (bdDec_kinds hd hk)
      rw [e1, e2]
      have hK : isK l bdK = false := by simp [isK, hk]
      repeat' first
          | with_reducible refine wp_regionS (seg_eval (by simp -dsimp -implicitDefEqProofs [d1, d2, hK, hl2]; rfl) ?_)
          | with_reducible refine wp_region (seg_eval (by simp -dsimp -implicitDefEqProofs [d1, d2, hK, hl2]; rfl) ?_)
          | with_reducible refine wp_drawsS (seg_eval (by simp -dsimp -implicitDefEqProofs [d1, d2, hK, hl2]; rfl) ?_)
          | with_reducible refine wp_draws (seg_eval (by simp -dsimp -implicitDefEqProofs [d1, d2, hK, hl2]; rfl) ?_)
          | with_reducible refine seg_fin ?_
          | with_reducible refine seg_pan ?_
          | with_reducible refine seg_both ?_ ?_
          | with_reducible refine seg_case (fun x h => ?_) (fun h => ?_)
          | with_reducible refine seg_gate (fun h => ?_) (fun h => ?_)
          | with_reducible refine seg_need ?_ ?_
          | with_reducible refine wp_assoc ?_ | with_reducible refine wp_skipS ?_ | with_reducible refine wp_retS ?_ | with_reducible refine wp_exitS ?_ | with_reducible refine wp_dropS (wp_eqT (by simp -dsimp -implicitDefEqProofs [d1, d2, hK, hl2]; rfl) ?_) | with_reducible refine wp_sealS (by simp -dsimp -implicitDefEqProofs [d1, d2, hK, hl2]; rfl) ?_ | with_reducible refine wp_seal (by simp -dsimp -implicitDefEqProofs [d1, d2, hK, hl2]; rfl) ?_ | with_reducible refine wp_blockS ?_ | with_reducible refine wp_skip' ?_ | with_reducible refine wp_ret' ?_ | with_reducible refine wp_exit' ?_ | with_reducible refine wp_drop (wp_eqT (by simp -dsimp -implicitDefEqProofs [d1, d2, hK, hl2]; rfl) ?_) | with_reducible refine wp_block' ?_
          | with_reducible refine wp_condVS (by simp -dsimp -implicitDefEqProofs [d1, d2, hK, hl2]; rfl) ?_
          | with_reducible refine wp_condV (by simp -dsimp -implicitDefEqProofs [d1, d2, hK, hl2]; rfl) ?_
          | with_reducible refine cond_t ?_ | with_reducible refine cond_f ?_ | with_reducible refine cond_v (fun h => ?_) (fun h => ?_)
          | with_reducible refine post_then ?_ | with_reducible refine post_thenE ?_ | with_reducible refine post_thenP ?_ | with_reducible refine post_blkP ?_ | with_reducible refine post_thenR ?_ | with_reducible refine post_blkN ?_ | with_reducible refine post_blkE ?_ | with_reducible refine post_blkF rfl ?_ | with_reducible refine post_blkR ?_
          | with_reducible refine seg_eval (by simp -dsimp -implicitDefEqProofs [d1, d2, hK, hl2]; rfl) ?_
      all_goals first
        | omega
        | exact post_bd (by simp [rs_16, avB, zeroB_eq])
        | trace_state

set_option maxHeartbeats 8000000 in
theorem bdDecR_ok : CallOk Try.prog 17 spBdD := by
  refine ok_17 E32_ok spBdD fun args mem r mem1 h => ?_
  unfold spBdD at h
  split at h
  case h_2 => cases h
  rename_i s
  cases h
  obtain ⟨q1, q2⟩ := ref_decL s.data.toList
  unfold ac_17
  cases hd : dec (tb s) with
  | none =>
    obtain ⟨e1, e2⟩ := bd_no (bdDec_none hd)
    rw [e1, e2]
    have d1 : decL s.data.toList = [] := by unfold decL; rw [show s.data.toList = tb s from rfl, hd]; rfl
    have d2 : decE s.data.toList = 4 := by unfold decE; rw [show s.data.toList = tb s from rfl, hd]; rfl
    repeat' first
        | with_reducible refine wp_regionS (seg_eval (by simp -dsimp -implicitDefEqProofs [q1, q2, d1, d2]; rfl) ?_)
        | with_reducible refine wp_region (seg_eval (by simp -dsimp -implicitDefEqProofs [q1, q2, d1, d2]; rfl) ?_)
        | with_reducible refine wp_drawsS (seg_eval (by simp -dsimp -implicitDefEqProofs [q1, q2, d1, d2]; rfl) ?_)
        | with_reducible refine wp_draws (seg_eval (by simp -dsimp -implicitDefEqProofs [q1, q2, d1, d2]; rfl) ?_)
        | with_reducible refine seg_fin ?_
        | with_reducible refine seg_pan ?_
        | with_reducible refine seg_both ?_ ?_
        | with_reducible refine seg_case (fun x h => ?_) (fun h => ?_)
        | with_reducible refine seg_gate (fun h => ?_) (fun h => ?_)
        | with_reducible refine seg_need ?_ ?_
        | with_reducible refine wp_assoc ?_ | with_reducible refine wp_skipS ?_ | with_reducible refine wp_retS ?_ | with_reducible refine wp_exitS ?_ | with_reducible refine wp_dropS (wp_eqT (by simp -dsimp -implicitDefEqProofs [q1, q2, d1, d2]; rfl) ?_) | with_reducible refine wp_sealS (by simp -dsimp -implicitDefEqProofs [q1, q2, d1, d2]; rfl) ?_ | with_reducible refine wp_seal (by simp -dsimp -implicitDefEqProofs [q1, q2, d1, d2]; rfl) ?_ | with_reducible refine wp_blockS ?_ | with_reducible refine wp_skip' ?_ | with_reducible refine wp_ret' ?_ | with_reducible refine wp_exit' ?_ | with_reducible refine wp_drop (wp_eqT (by simp -dsimp -implicitDefEqProofs [q1, q2, d1, d2]; rfl) ?_) | with_reducible refine wp_block' ?_
        | with_reducible refine wp_condVS (by simp -dsimp -implicitDefEqProofs [q1, q2, d1, d2]; rfl) ?_
        | with_reducible refine wp_condV (by simp -dsimp -implicitDefEqProofs [q1, q2, d1, d2]; rfl) ?_
        | with_reducible refine cond_t ?_ | with_reducible refine cond_f ?_ | with_reducible refine cond_v (fun h => ?_) (fun h => ?_)
        | with_reducible refine post_then ?_ | with_reducible refine post_thenE ?_ | with_reducible refine post_thenP ?_ | with_reducible refine post_blkP ?_ | with_reducible refine post_thenR ?_ | with_reducible refine post_blkN ?_ | with_reducible refine post_blkE ?_ | with_reducible refine post_blkF rfl ?_ | with_reducible refine post_blkR ?_
        | with_reducible refine seg_eval (by simp -dsimp -implicitDefEqProofs [q1, q2, d1, d2]; rfl) ?_
    all_goals first
      | omega
      | exact post_bd (by simp [rs_17, avB, zeroB_eq])
      | trace_state
  | some l =>
    have d1 : decL s.data.toList = l := by unfold decL; rw [show s.data.toList = tb s from rfl, hd]; rfl
    have d2 : decE s.data.toList = 0 := by unfold decE; rw [show s.data.toList = tb s from rfl, hd]; rfl
    have hl2 : l.length ≤ 200 := (encE_zero (enc_dec hd).1).2.1
    by_cases h18 : l.length = 18
    · obtain ⟨a, ha⟩ : ∃ a, l[0]? = some a := ⟨_, List.getElem?_eq_getElem (by omega)⟩
      obtain ⟨e, he⟩ : ∃ e, l[17]? = some e := ⟨_, List.getElem?_eq_getElem (by omega)⟩
      have hc := bdDec_clip2 h18 hd _ rfl
      have hah : l.headD (nF 0) = a := by cases l with | nil => simp at h18 | cons b l => simp at ha; simp [ha]
      have heh : l.getLastD (nF 0) = e := by
        rw [List.getLastD_eq_getLast?, List.getLast?_eq_getElem?, h18, he]; rfl
      rw [hah, heh] at hc
      have hli : ∀ (i : Nat), i < 16 → ∃ f, l[i + 1]? = some f ∧ (clipP 9999 ((l.tail.take 16).map Fld.num))[i]? = some (min f.num 9999) := fun i hi => by
        obtain ⟨f, hf⟩ : ∃ f, l[i + 1]? = some f := ⟨_, List.getElem?_eq_getElem (by omega)⟩
        refine ⟨f, hf, clipP_get ?_⟩
        rw [List.getElem?_map, List.getElem?_take_of_lt hi, List.getElem?_tail, hf]
        rfl
      have hcl : (clipP 9999 ((l.tail.take 16).map Fld.num)).length = 16 := by simp [clipP_length, h18]
      have hco : okV (clipP 9999 ((l.tail.take 16).map Fld.num)) := ⟨hcl, fun n hn => by have := clipP_le n hn; omega⟩
      have m0 : min a.num 9 ≤ 9 := Nat.min_le_right _ _
      have x0 : (if (9 : Int) < (a.num : Int) then (9 : Int) else (a.num : Int)) = ((min a.num 9 : Nat) : Int) := min_if 9 a.num
      generalize min a.num 9 = k4 at m0 x0 hc
      generalize clipP 9999 ((l.tail.take 16).map Fld.num) = w at hc hcl hli hco
      have w4 : IntKind.wrap .i64 (k4 : Int) = (k4 : Int) := IntWalk.i64_in _ (by omega)
      clear hd hah heh
      have hn : ((l.length : Int) != 18) = false := by rw [h18]; rfl
      repeat' first
          | with_reducible refine wp_regionS (seg_eval (by simp -dsimp -implicitDefEqProofs [q1, q2, d1, d2, hl2, ha, he, av2, x0, w4, hn]; rfl) ?_)
          | with_reducible refine wp_region (seg_eval (by simp -dsimp -implicitDefEqProofs [q1, q2, d1, d2, hl2, ha, he, av2, x0, w4, hn]; rfl) ?_)
          | with_reducible refine wp_drawsS (seg_eval (by simp -dsimp -implicitDefEqProofs [q1, q2, d1, d2, hl2, ha, he, av2, x0, w4, hn]; rfl) ?_)
          | with_reducible refine wp_draws (seg_eval (by simp -dsimp -implicitDefEqProofs [q1, q2, d1, d2, hl2, ha, he, av2, x0, w4, hn]; rfl) ?_)
          | with_reducible refine seg_fin ?_
          | with_reducible refine seg_pan ?_
          | with_reducible refine seg_both ?_ ?_
          | with_reducible refine seg_case (fun x h => ?_) (fun h => ?_)
          | with_reducible refine seg_gate (fun h => ?_) (fun h => ?_)
          | with_reducible refine seg_need ?_ ?_
          | with_reducible refine wp_assoc ?_ | with_reducible refine wp_skipS ?_ | with_reducible refine wp_retS ?_ | with_reducible refine wp_exitS ?_ | with_reducible refine wp_dropS (wp_eqT (by simp -dsimp -implicitDefEqProofs [q1, q2, d1, d2, hl2, ha, he, av2, x0, w4, hn]; rfl) ?_) | with_reducible refine wp_sealS (by simp -dsimp -implicitDefEqProofs [q1, q2, d1, d2, hl2, ha, he, av2, x0, w4, hn]; rfl) ?_ | with_reducible refine wp_seal (by simp -dsimp -implicitDefEqProofs [q1, q2, d1, d2, hl2, ha, he, av2, x0, w4, hn]; rfl) ?_ | with_reducible refine wp_blockS ?_ | with_reducible refine wp_skip' ?_ | with_reducible refine wp_ret' ?_ | with_reducible refine wp_exit' ?_ | with_reducible refine wp_drop (wp_eqT (by simp -dsimp -implicitDefEqProofs [q1, q2, d1, d2, hl2, ha, he, av2, x0, w4, hn]; rfl) ?_) | with_reducible refine wp_block' ?_
          | with_reducible refine wp_condVS (by simp -dsimp -implicitDefEqProofs [q1, q2, d1, d2, hl2, ha, he, av2, x0, w4, hn]; rfl) ?_
          | with_reducible refine wp_condV (by simp -dsimp -implicitDefEqProofs [q1, q2, d1, d2, hl2, ha, he, av2, x0, w4, hn]; rfl) ?_
          | with_reducible refine cond_t ?_ | with_reducible refine cond_f ?_ | with_reducible refine cond_v (fun h => ?_) (fun h => ?_)
          | with_reducible refine post_then ?_ | with_reducible refine post_thenE ?_ | with_reducible refine post_thenP ?_ | with_reducible refine post_blkP ?_ | with_reducible refine post_thenR ?_ | with_reducible refine post_blkN ?_ | with_reducible refine post_blkE ?_ | with_reducible refine post_blkF rfl ?_ | with_reducible refine post_blkR ?_
          | with_reducible refine seg_eval (by simp -dsimp -implicitDefEqProofs [q1, q2, d1, d2, hl2, ha, he, av2, x0, w4, hn]; rfl) ?_
      all_goals try omega
      refine wp_loop' (fun j ts mm => ∃ i : Nat, i + j = 16 ∧ ts = [(0, .v (.string s)), (2, .ptr 0 0 0), (4, .fsl 4 (l.map av2)), (6, .ptr 1 0 0), (7, .ptr 2 0 0), (8, .v (.int .i64 i))] ∧ mm = [.var (bc 0 zV ⟨#[]⟩), .var (bc k4 zV e.text), .var (vc (fillV w i))]) 16 ?_ ?_
      · exact ⟨[], [0, 1, 2], by simp, by simp, 0, by omega, by simp [av2], by simp [fillV_zero]⟩
      · rintro j ts mm ⟨i, hi, rfl, rfl⟩
        have hfl := fillV_length hcl (i := i) (by omega)
        by_cases hlt : i < 16
        · obtain ⟨f, hlx, hwi⟩ := hli i hlt
          have hwx := fillV_set hcl hwi
          have y0 : (if (9999 : Int) < (f.num : Int) then (9999 : Int) else (f.num : Int)) = ((min f.num 9999 : Nat) : Int) := min_if 9999 f.num
          have m1 : min f.num 9999 ≤ 9999 := Nat.min_le_right _ _
          generalize min f.num 9999 = x1 at hwx y0 m1
          have wx : IntKind.wrap .u16 (x1 : Int) = (x1 : Int) := IntWalk.u16_in _ (by omega)
          have hd2 : decide (i < 16) = true := by simp [hlt]
          have hd3 : decide ((i : Int) < 16) = true := by rw [decide_eq_true_eq]; omega
          have h64 : IntKind.wrap .i64 ((i : Int) + 1) = ((i + 1 : Nat) : Int) := by rw [IntWalk.i64_in _ (by omega)]; rfl
          have hto : ((i : Int) + 1).toNat = i + 1 := by omega
          have hlt16 : i + 1 ≤ 16 := by omega
          repeat' first
              | with_reducible refine wp_regionS (seg_eval (by simp -dsimp -implicitDefEqProofs [hd2, hd3, h64, hto, hlx, av2, y0, wx, hfl, hlt, hlt16, hwx]; rfl) ?_)
              | with_reducible refine wp_region (seg_eval (by simp -dsimp -implicitDefEqProofs [hd2, hd3, h64, hto, hlx, av2, y0, wx, hfl, hlt, hlt16, hwx]; rfl) ?_)
              | with_reducible refine wp_drawsS (seg_eval (by simp -dsimp -implicitDefEqProofs [hd2, hd3, h64, hto, hlx, av2, y0, wx, hfl, hlt, hlt16, hwx]; rfl) ?_)
              | with_reducible refine wp_draws (seg_eval (by simp -dsimp -implicitDefEqProofs [hd2, hd3, h64, hto, hlx, av2, y0, wx, hfl, hlt, hlt16, hwx]; rfl) ?_)
              | with_reducible refine seg_fin ?_
              | with_reducible refine seg_pan ?_
              | with_reducible refine seg_both ?_ ?_
              | with_reducible refine seg_case (fun x h => ?_) (fun h => ?_)
              | with_reducible refine seg_gate (fun h => ?_) (fun h => ?_)
              | with_reducible refine seg_need ?_ ?_
              | with_reducible refine wp_assoc ?_ | with_reducible refine wp_skipS ?_ | with_reducible refine wp_retS ?_ | with_reducible refine wp_exitS ?_ | with_reducible refine wp_dropS (wp_eqT (by simp -dsimp -implicitDefEqProofs [hd2, hd3, h64, hto, hlx, av2, y0, wx, hfl, hlt, hlt16, hwx]; rfl) ?_) | with_reducible refine wp_sealS (by simp -dsimp -implicitDefEqProofs [hd2, hd3, h64, hto, hlx, av2, y0, wx, hfl, hlt, hlt16, hwx]; rfl) ?_ | with_reducible refine wp_seal (by simp -dsimp -implicitDefEqProofs [hd2, hd3, h64, hto, hlx, av2, y0, wx, hfl, hlt, hlt16, hwx]; rfl) ?_ | with_reducible refine wp_blockS ?_ | with_reducible refine wp_skip' ?_ | with_reducible refine wp_ret' ?_ | with_reducible refine wp_exit' ?_ | with_reducible refine wp_drop (wp_eqT (by simp -dsimp -implicitDefEqProofs [hd2, hd3, h64, hto, hlx, av2, y0, wx, hfl, hlt, hlt16, hwx]; rfl) ?_) | with_reducible refine wp_block' ?_
              | with_reducible refine wp_condVS (by simp -dsimp -implicitDefEqProofs [hd2, hd3, h64, hto, hlx, av2, y0, wx, hfl, hlt, hlt16, hwx]; rfl) ?_
              | with_reducible refine wp_condV (by simp -dsimp -implicitDefEqProofs [hd2, hd3, h64, hto, hlx, av2, y0, wx, hfl, hlt, hlt16, hwx]; rfl) ?_
              | with_reducible refine cond_t ?_ | with_reducible refine cond_f ?_ | with_reducible refine cond_v (fun h => ?_) (fun h => ?_)
              | with_reducible refine post_then ?_ | with_reducible refine post_thenE ?_ | with_reducible refine post_thenP ?_ | with_reducible refine post_blkP ?_ | with_reducible refine post_thenR ?_ | with_reducible refine post_blkN ?_ | with_reducible refine post_blkE ?_ | with_reducible refine post_blkF rfl ?_ | with_reducible refine post_blkR ?_
              | with_reducible refine seg_eval (by simp -dsimp -implicitDefEqProofs [hd2, hd3, h64, hto, hlx, av2, y0, wx, hfl, hlt, hlt16, hwx]; rfl) ?_
          all_goals first
            | omega
            | exact ⟨j - 1, by omega, [], [0, 1, 2], by simp, by simp, i + 1, by omega, by simp [av2], by simp⟩
            | trace_state
        · have hd2 : decide (i < 16) = false := by simp [hlt]
          have hd3 : decide ((i : Int) < 16) = false := by rw [decide_eq_false_iff_not]; omega
          have hi16 : i = 16 := by omega
          subst hi16
          rw [fillV_all hcl] at *
          cases hr : mayB ⟨k4, w, e.text⟩ with
          | false =>
            rw [hr] at hc
            simp only [Bool.false_eq_true, false_and, if_false] at hc
            obtain ⟨e1, e2⟩ := bd_no hc
            rw [e1, e2]
            have g1 : bdS ⟨k4, w, e.text⟩ = ⟨#[]⟩ := by simp [bdS, hr]
            have g2 : bdE ⟨k4, w, e.text⟩ = 2 := by simp [bdE, hr]
            repeat' first
                | with_reducible refine wp_regionS (seg_eval (by simp -dsimp -implicitDefEqProofs [hd2, hd3, hcl, hco, hr, g1, g2]; rfl) ?_)
                | with_reducible refine wp_region (seg_eval (by simp -dsimp -implicitDefEqProofs [hd2, hd3, hcl, hco, hr, g1, g2]; rfl) ?_)
                | with_reducible refine wp_drawsS (seg_eval (by simp -dsimp -implicitDefEqProofs [hd2, hd3, hcl, hco, hr, g1, g2]; rfl) ?_)
                | with_reducible refine wp_draws (seg_eval (by simp -dsimp -implicitDefEqProofs [hd2, hd3, hcl, hco, hr, g1, g2]; rfl) ?_)
                | with_reducible refine seg_fin ?_
                | with_reducible refine seg_pan ?_
                | with_reducible refine seg_both ?_ ?_
                | with_reducible refine seg_case (fun x h => ?_) (fun h => ?_)
                | with_reducible refine seg_gate (fun h => ?_) (fun h => ?_)
                | with_reducible refine seg_need ?_ ?_
                | with_reducible refine wp_assoc ?_ | with_reducible refine wp_skipS ?_ | with_reducible refine wp_retS ?_ | with_reducible refine wp_exitS ?_ | with_reducible refine wp_dropS (wp_eqT (by simp -dsimp -implicitDefEqProofs [hd2, hd3, hcl, hco, hr, g1, g2]; rfl) ?_) | with_reducible refine wp_sealS (by simp -dsimp -implicitDefEqProofs [hd2, hd3, hcl, hco, hr, g1, g2]; rfl) ?_ | with_reducible refine wp_seal (by simp -dsimp -implicitDefEqProofs [hd2, hd3, hcl, hco, hr, g1, g2]; rfl) ?_ | with_reducible refine wp_blockS ?_ | with_reducible refine wp_skip' ?_ | with_reducible refine wp_ret' ?_ | with_reducible refine wp_exit' ?_ | with_reducible refine wp_drop (wp_eqT (by simp -dsimp -implicitDefEqProofs [hd2, hd3, hcl, hco, hr, g1, g2]; rfl) ?_) | with_reducible refine wp_block' ?_
                | with_reducible refine wp_condVS (by simp -dsimp -implicitDefEqProofs [hd2, hd3, hcl, hco, hr, g1, g2]; rfl) ?_
                | with_reducible refine wp_condV (by simp -dsimp -implicitDefEqProofs [hd2, hd3, hcl, hco, hr, g1, g2]; rfl) ?_
                | with_reducible refine cond_t ?_ | with_reducible refine cond_f ?_ | with_reducible refine cond_v (fun h => ?_) (fun h => ?_)
                | with_reducible refine post_then ?_ | with_reducible refine post_thenE ?_ | with_reducible refine post_thenP ?_ | with_reducible refine post_blkP ?_ | with_reducible refine post_thenR ?_ | with_reducible refine post_blkN ?_ | with_reducible refine post_blkE ?_ | with_reducible refine post_blkF rfl ?_ | with_reducible refine post_blkR ?_
                | with_reducible refine seg_eval (by simp -dsimp -implicitDefEqProofs [hd2, hd3, hcl, hco, hr, g1, g2]; rfl) ?_
            all_goals first
              | omega
              | exact post_bd (by simp [rs_17, avB, zeroB_eq])
              | trace_state
          | true =>
            have g1 : bdS ⟨k4, w, e.text⟩ = ⟨(enc (bdL ⟨k4, w, e.text⟩)).toArray⟩ := by simp [bdS, hr]
            have g2 : bdE ⟨k4, w, e.text⟩ = 0 := by simp [bdE, hr]
            by_cases hes : enc (bdL ⟨k4, w, e.text⟩) = tb s
            · rw [if_pos ⟨hr, hes⟩] at hc
              obtain ⟨e1, e2⟩ := bd_yes hc
              rw [e1, e2]
              have hs : (⟨(enc (bdL ⟨k4, w, e.text⟩)).toArray⟩ : ByteArray) = s := by rw [hes, mk_tb]
              have hne : (s != s) = false := by rw [bne, (beq_bytes _ _).2 rfl]; rfl
              rw [hs] at g1
              repeat' first
                  | with_reducible refine wp_regionS (seg_eval (by simp -dsimp -implicitDefEqProofs [hd2, hd3, hcl, hco, hr, g1, g2, hne]; rfl) ?_)
                  | with_reducible refine wp_region (seg_eval (by simp -dsimp -implicitDefEqProofs [hd2, hd3, hcl, hco, hr, g1, g2, hne]; rfl) ?_)
                  | with_reducible refine wp_drawsS (seg_eval (by simp -dsimp -implicitDefEqProofs [hd2, hd3, hcl, hco, hr, g1, g2, hne]; rfl) ?_)
                  | with_reducible refine wp_draws (seg_eval (by simp -dsimp -implicitDefEqProofs [hd2, hd3, hcl, hco, hr, g1, g2, hne]; rfl) ?_)
                  | with_reducible refine seg_fin ?_
                  | with_reducible refine seg_pan ?_
                  | with_reducible refine seg_both ?_ ?_
                  | with_reducible refine seg_case (fun x h => ?_) (fun h => ?_)
                  | with_reducible refine seg_gate (fun h => ?_) (fun h => ?_)
                  | with_reducible refine seg_need ?_ ?_
                  | with_reducible refine wp_assoc ?_ | with_reducible refine wp_skipS ?_ | with_reducible refine wp_retS ?_ | with_reducible refine wp_exitS ?_ | with_reducible refine wp_dropS (wp_eqT (by simp -dsimp -implicitDefEqProofs [hd2, hd3, hcl, hco, hr, g1, g2, hne]; rfl) ?_) | with_reducible refine wp_sealS (by simp -dsimp -implicitDefEqProofs [hd2, hd3, hcl, hco, hr, g1, g2, hne]; rfl) ?_ | with_reducible refine wp_seal (by simp -dsimp -implicitDefEqProofs [hd2, hd3, hcl, hco, hr, g1, g2, hne]; rfl) ?_ | with_reducible refine wp_blockS ?_ | with_reducible refine wp_skip' ?_ | with_reducible refine wp_ret' ?_ | with_reducible refine wp_exit' ?_ | with_reducible refine wp_drop (wp_eqT (by simp -dsimp -implicitDefEqProofs [hd2, hd3, hcl, hco, hr, g1, g2, hne]; rfl) ?_) | with_reducible refine wp_block' ?_
                  | with_reducible refine wp_condVS (by simp -dsimp -implicitDefEqProofs [hd2, hd3, hcl, hco, hr, g1, g2, hne]; rfl) ?_
                  | with_reducible refine wp_condV (by simp -dsimp -implicitDefEqProofs [hd2, hd3, hcl, hco, hr, g1, g2, hne]; rfl) ?_
                  | with_reducible refine cond_t ?_ | with_reducible refine cond_f ?_ | with_reducible refine cond_v (fun h => ?_) (fun h => ?_)
                  | with_reducible refine post_then ?_ | with_reducible refine post_thenE ?_ | with_reducible refine post_thenP ?_ | with_reducible refine post_blkP ?_ | with_reducible refine post_thenR ?_ | with_reducible refine post_blkN ?_ | with_reducible refine post_blkE ?_ | with_reducible refine post_blkF rfl ?_ | with_reducible refine post_blkR ?_
                  | with_reducible refine seg_eval (by simp -dsimp -implicitDefEqProofs [hd2, hd3, hcl, hco, hr, g1, g2, hne]; rfl) ?_
              all_goals first
                | omega
                | exact post_bd (by simp [rs_17, avB, hcl])
                | trace_state
            · rw [if_neg (fun h => hes h.2)] at hc
              obtain ⟨e1, e2⟩ := bd_no hc
              rw [e1, e2]
              have hne : (bdS ⟨k4, w, e.text⟩ != s) = true := by
                rw [g1, bne, Bool.not_eq_true', ← Bool.not_eq_true, beq_bytes]
                intro h
                exact hes (by rw [← h, tb_mk])
              repeat' first
                  | with_reducible refine wp_regionS (seg_eval (by simp -dsimp -implicitDefEqProofs [hd2, hd3, hcl, hco, hr, g2, hne]; rfl) ?_)
                  | with_reducible refine wp_region (seg_eval (by simp -dsimp -implicitDefEqProofs [hd2, hd3, hcl, hco, hr, g2, hne]; rfl) ?_)
                  | with_reducible refine wp_drawsS (seg_eval (by simp -dsimp -implicitDefEqProofs [hd2, hd3, hcl, hco, hr, g2, hne]; rfl) ?_)
                  | with_reducible refine wp_draws (seg_eval (by simp -dsimp -implicitDefEqProofs [hd2, hd3, hcl, hco, hr, g2, hne]; rfl) ?_)
                  | with_reducible refine seg_fin ?_
                  | with_reducible refine seg_pan ?_
                  | with_reducible refine seg_both ?_ ?_
                  | with_reducible refine seg_case (fun x h => ?_) (fun h => ?_)
                  | with_reducible refine seg_gate (fun h => ?_) (fun h => ?_)
                  | with_reducible refine seg_need ?_ ?_
                  | with_reducible refine wp_assoc ?_ | with_reducible refine wp_skipS ?_ | with_reducible refine wp_retS ?_ | with_reducible refine wp_exitS ?_ | with_reducible refine wp_dropS (wp_eqT (by simp -dsimp -implicitDefEqProofs [hd2, hd3, hcl, hco, hr, g2, hne]; rfl) ?_) | with_reducible refine wp_sealS (by simp -dsimp -implicitDefEqProofs [hd2, hd3, hcl, hco, hr, g2, hne]; rfl) ?_ | with_reducible refine wp_seal (by simp -dsimp -implicitDefEqProofs [hd2, hd3, hcl, hco, hr, g2, hne]; rfl) ?_ | with_reducible refine wp_blockS ?_ | with_reducible refine wp_skip' ?_ | with_reducible refine wp_ret' ?_ | with_reducible refine wp_exit' ?_ | with_reducible refine wp_drop (wp_eqT (by simp -dsimp -implicitDefEqProofs [hd2, hd3, hcl, hco, hr, g2, hne]; rfl) ?_) | with_reducible refine wp_block' ?_
                  | with_reducible refine wp_condVS (by simp -dsimp -implicitDefEqProofs [hd2, hd3, hcl, hco, hr, g2, hne]; rfl) ?_
                  | with_reducible refine wp_condV (by simp -dsimp -implicitDefEqProofs [hd2, hd3, hcl, hco, hr, g2, hne]; rfl) ?_
                  | with_reducible refine cond_t ?_ | with_reducible refine cond_f ?_ | with_reducible refine cond_v (fun h => ?_) (fun h => ?_)
                  | with_reducible refine post_then ?_ | with_reducible refine post_thenE ?_ | with_reducible refine post_thenP ?_ | with_reducible refine post_blkP ?_ | with_reducible refine post_thenR ?_ | with_reducible refine post_blkN ?_ | with_reducible refine post_blkE ?_ | with_reducible refine post_blkF rfl ?_ | with_reducible refine post_blkR ?_
                  | with_reducible refine seg_eval (by simp -dsimp -implicitDefEqProofs [hd2, hd3, hcl, hco, hr, g2, hne]; rfl) ?_
              all_goals first
                | omega
                | exact post_bd (by simp [rs_17, avB, zeroB_eq])
                | trace_state
    · obtain ⟨e1, e2⟩ := bd_no (bdDec_len hd h18)
      rw [e1, e2]
      have hn : ((l.length : Int) != 18) = true := by rw [bne_iff_ne]; omega
      have hn' : (l.length != 18) = true := by rw [bne_iff_ne]; omega
      repeat' first
          | with_reducible refine wp_regionS (seg_eval (by simp -dsimp -implicitDefEqProofs [q1, q2, d1, d2, hl2, hn, hn']; rfl) ?_)
          | with_reducible refine wp_region (seg_eval (by simp -dsimp -implicitDefEqProofs [q1, q2, d1, d2, hl2, hn, hn']; rfl) ?_)
          | with_reducible refine wp_drawsS (seg_eval (by simp -dsimp -implicitDefEqProofs [q1, q2, d1, d2, hl2, hn, hn']; rfl) ?_)
          | with_reducible refine wp_draws (seg_eval (by simp -dsimp -implicitDefEqProofs [q1, q2, d1, d2, hl2, hn, hn']; rfl) ?_)
          | with_reducible refine seg_fin ?_
          | with_reducible refine seg_pan ?_
          | with_reducible refine seg_both ?_ ?_
          | with_reducible refine seg_case (fun x h => ?_) (fun h => ?_)
          | with_reducible refine seg_gate (fun h => ?_) (fun h => ?_)
          | with_reducible refine seg_need ?_ ?_
          | with_reducible refine wp_assoc ?_ | with_reducible refine wp_skipS ?_ | with_reducible refine wp_retS ?_ | with_reducible refine wp_exitS ?_ | with_reducible refine wp_dropS (wp_eqT (by simp -dsimp -implicitDefEqProofs [q1, q2, d1, d2, hl2, hn, hn']; rfl) ?_) | with_reducible refine wp_sealS (by simp -dsimp -implicitDefEqProofs [q1, q2, d1, d2, hl2, hn, hn']; rfl) ?_ | with_reducible refine wp_seal (by simp -dsimp -implicitDefEqProofs [q1, q2, d1, d2, hl2, hn, hn']; rfl) ?_ | with_reducible refine wp_blockS ?_ | with_reducible refine wp_skip' ?_ | with_reducible refine wp_ret' ?_ | with_reducible refine wp_exit' ?_ | with_reducible refine wp_drop (wp_eqT (by simp -dsimp -implicitDefEqProofs [q1, q2, d1, d2, hl2, hn, hn']; rfl) ?_) | with_reducible refine wp_block' ?_
          | with_reducible refine wp_condVS (by simp -dsimp -implicitDefEqProofs [q1, q2, d1, d2, hl2, hn, hn']; rfl) ?_
          | with_reducible refine wp_condV (by simp -dsimp -implicitDefEqProofs [q1, q2, d1, d2, hl2, hn, hn']; rfl) ?_
          | with_reducible refine cond_t ?_ | with_reducible refine cond_f ?_ | with_reducible refine cond_v (fun h => ?_) (fun h => ?_)
          | with_reducible refine post_then ?_ | with_reducible refine post_thenE ?_ | with_reducible refine post_thenP ?_ | with_reducible refine post_blkP ?_ | with_reducible refine post_thenR ?_ | with_reducible refine post_blkN ?_ | with_reducible refine post_blkE ?_ | with_reducible refine post_blkF rfl ?_ | with_reducible refine post_blkR ?_
          | with_reducible refine seg_eval (by simp -dsimp -implicitDefEqProofs [q1, q2, d1, d2, hl2, hn, hn']; rfl) ?_
      all_goals first
        | omega
        | exact post_bd (by simp [rs_17, avB, zeroB_eq])
        | trace_state

def E33 : Env := (E32.put 16 [] spBdD).put 17 [] spBdD
theorem E33_ok : EnvOk Try.prog E33 := Env.put_ok _ (Env.put_ok _ E32_ok bdDec_ok) bdDecR_ok
attribute [simp] E33 spBdD
end Go.Proofs.Ytifchnkhnphibaa.Am
