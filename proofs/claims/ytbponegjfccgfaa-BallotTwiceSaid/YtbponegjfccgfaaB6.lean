/-
  WHO WANTS A CHANGE, on both sides.
-/
import Derived.Test.YtbponegjfccgfaaB4
namespace Go.Proofs.Ytbponegjfccgfaa.Am
set_option linter.unusedSimpArgs false
set_option linter.unusedVariables false
open Go Go.Proofs
attribute [local irreducible] wpA
attribute [-simp] splice

def upToC (w : Int) (m : Ct) (l : List Ct) (i : Nat) : List Ct :=
  if i ≤ posK keyCt w l then l.take i else l.take (posK keyCt w l) ++ [m] ++ (l.take i).drop (posK keyCt w l)
theorem upToC_zero (w : Int) (m : Ct) (l : List Ct) : upToC w m l 0 = [] := by simp [upToC]
theorem upToC_low {w : Int} {m x : Ct} {l : List Ct} {i : Nat} (h : i < posK keyCt w l) (hx : l[i]? = some x) : upToC w m l (i + 1) = upToC w m l i ++ [x] := by
  unfold upToC
  rw [if_pos (by omega), if_pos (by omega), take_more hx]
theorem upToC_at {w : Int} {m x : Ct} {l : List Ct} {i : Nat} (h : i = posK keyCt w l) (hx : l[i]? = some x) : upToC w m l (i + 1) = upToC w m l i ++ [m] ++ [x] := by
  have hlt := (List.getElem?_eq_some_iff.1 hx).1
  unfold upToC
  rw [if_neg (by omega), if_pos (by omega), take_more hx, ← h, List.drop_append_of_le_length (by simp; omega)]
  simp
theorem upToC_high {w : Int} {m x : Ct} {l : List Ct} {i : Nat} (h : posK keyCt w l < i) (hx : l[i]? = some x) : upToC w m l (i + 1) = upToC w m l i ++ [x] := by
  have hlt := (List.getElem?_eq_some_iff.1 hx).1
  unfold upToC
  rw [if_neg (by omega), if_neg (by omega), take_more hx, List.drop_append_of_le_length (by simp; omega)]
  simp
theorem upToC_all {m : Ct} {l : List Ct} (h : posK keyCt m.who l < l.length) : upToC m.who m l l.length = insK keyCt m l := by
  unfold upToC insK
  rw [if_neg (by omega), List.take_length]; rfl
theorem upToC_end {m : Ct} {l : List Ct} (h : l.length ≤ posK keyCt m.who l) : upToC m.who m l l.length ++ [m] = insK keyCt m l := by
  have := posK_le (key := keyCt) m.who l
  unfold upToC insK
  have e : posK keyCt (keyCt m) l = l.length := by show posK keyCt m.who l = _; omega
  rw [if_pos h, e]; simp
theorem upToC_mem {w : Int} {m y : Ct} {l : List Ct} {i : Nat} (h : y ∈ upToC w m l i) : y = m ∨ y ∈ l := by
  unfold upToC at h
  split at h
  · exact .inr (List.mem_of_mem_take h)
  · simp only [List.mem_append, List.mem_singleton] at h
    rcases h with (h | h) | h
    · exact .inr (List.mem_of_mem_take h)
    · exact .inl h
    · exact .inr (List.mem_of_mem_take (List.mem_of_mem_drop h))
theorem upToC_len {w : Int} {m : Ct} {l : List Ct} {i : Nat} (hi : i ≤ l.length) : (upToC w m l i).length ≤ i + 1 := by
  unfold upToC
  split
  · simp; omega
  · simp; omega


set_option maxHeartbeats 16000000 in
theorem putCR_ok : CallOk Try.prog 28 spPutC := by
  refine ok_28 (Env.put_ok [] (Env.put_ok [] (Env.put_ok [] (Env.none_ok _) hasR_ok) boxRightR_ok) applyR_ok) spPutC (wb_spc ?_)
  rintro ⟨v, m, l, ⟨w, a, d⟩⟩ ⟨hm, hll, hok, hc⟩
  simp only [avBox] at hm hll hok hc ⊢
  have hml : (m : Int) < 65536 := by omega
  have hll2 : l.length ≤ 100000000 := by omega
  have hsh : (l.map avCt).all AV.shaped = true := map_shaped fun x _ => avCt_shaped x
  obtain ⟨hw0, hw1, hd0, hd1⟩ := id hc
  simp only at hw0 hw1 hd0 hd1
  unfold ac_28
  simp only [avCt, cCt]
  have eav : (fun c => AV.agg (cCt c)) = avCt := rfl
  cases hr : boxB v m l
  · have hp : putC v m l ⟨w, a, d⟩ = (l, 2) := by simp [putC, hr]
    rw [hp]
    repeat' first
        | with_reducible refine wp_regionS (seg_eval (by simp -dsimp -implicitDefEqProofs [hw0, hw1, hd0, hd1, hm, hml, hr, hll2, hok, hsh, boxAt]; rfl) ?_)
        | with_reducible refine wp_region (seg_eval (by simp -dsimp -implicitDefEqProofs [hw0, hw1, hd0, hd1, hm, hml, hr, hll2, hok, hsh, boxAt]; rfl) ?_)
        | with_reducible refine wp_drawsS (seg_eval (by simp -dsimp -implicitDefEqProofs [hw0, hw1, hd0, hd1, hm, hml, hr, hll2, hok, hsh, boxAt]; rfl) ?_)
        | with_reducible refine wp_draws (seg_eval (by simp -dsimp -implicitDefEqProofs [hw0, hw1, hd0, hd1, hm, hml, hr, hll2, hok, hsh, boxAt]; rfl) ?_)
        | with_reducible refine seg_fin ?_
        | with_reducible refine seg_pan ?_
        | with_reducible refine seg_both ?_ ?_
        | with_reducible refine seg_case (fun x h => ?_) (fun h => ?_)
        | with_reducible refine seg_gate (fun h => ?_) (fun h => ?_)
        | with_reducible refine seg_need ?_ ?_
        | with_reducible refine wp_assoc ?_ | with_reducible refine wp_skipS ?_ | with_reducible refine wp_retS ?_ | with_reducible refine wp_exitS ?_ | with_reducible refine wp_dropS (wp_eqT (by simp -dsimp -implicitDefEqProofs [hw0, hw1, hd0, hd1, hm, hml, hr, hll2, hok, hsh, boxAt]; rfl) ?_) | with_reducible refine wp_sealS (by simp -dsimp -implicitDefEqProofs [hw0, hw1, hd0, hd1, hm, hml, hr, hll2, hok, hsh, boxAt]; rfl) ?_ | with_reducible refine wp_seal (by simp -dsimp -implicitDefEqProofs [hw0, hw1, hd0, hd1, hm, hml, hr, hll2, hok, hsh, boxAt]; rfl) ?_ | with_reducible refine wp_closeS (by simp -dsimp -implicitDefEqProofs [hw0, hw1, hd0, hd1, hm, hml, hr, hll2, hok, hsh, boxAt]; rfl) ?_ | with_reducible refine wp_close (by simp -dsimp -implicitDefEqProofs [hw0, hw1, hd0, hd1, hm, hml, hr, hll2, hok, hsh, boxAt]; rfl) ?_ | with_reducible refine wp_conc_out ?_ | with_reducible refine wp_open_out ?_ | with_reducible refine wp_pack_out ?_ | with_reducible refine wp_blockS ?_ | with_reducible refine wp_skip' ?_ | with_reducible refine wp_ret' ?_ | with_reducible refine wp_exit' ?_ | with_reducible refine wp_drop (wp_eqT (by simp -dsimp -implicitDefEqProofs [hw0, hw1, hd0, hd1, hm, hml, hr, hll2, hok, hsh, boxAt]; rfl) ?_) | with_reducible refine wp_block' ?_
        | with_reducible refine wp_condVS (by simp -dsimp -implicitDefEqProofs [hw0, hw1, hd0, hd1, hm, hml, hr, hll2, hok, hsh, boxAt]; rfl) ?_
        | with_reducible refine wp_condV (by simp -dsimp -implicitDefEqProofs [hw0, hw1, hd0, hd1, hm, hml, hr, hll2, hok, hsh, boxAt]; rfl) ?_
        | with_reducible refine cond_t ?_ | with_reducible refine cond_f ?_ | with_reducible refine cond_v (fun h => ?_) (fun h => ?_)
        | with_reducible refine post_then ?_ | with_reducible refine post_thenE ?_ | with_reducible refine post_thenP ?_ | with_reducible refine post_blkP ?_ | with_reducible refine post_thenR ?_ | with_reducible refine post_blkN ?_ | with_reducible refine post_blkE ?_ | with_reducible refine post_blkF rfl ?_ | with_reducible refine post_blkR ?_
        | with_reducible refine seg_eval (by simp -dsimp -implicitDefEqProofs [hw0, hw1, hd0, hd1, hm, hml, hr, hll2, hok, hsh, boxAt]; rfl) ?_
    all_goals first
      | omega
      | exact hok
      | exact post_fin rfl rfl ⟨[], [], rfl, rfl, rfl, rfl⟩
      | trace_state
  · have hst := cts_sort (box_iff.1 hr).2
    cases hh : hasS m w.toNat
    · have hp : putC v m l ⟨w, a, d⟩ = (l, 10) := by simp [putC, hr, hh]
      rw [hp]
      repeat' first
          | with_reducible refine wp_regionS (seg_eval (by simp -dsimp -implicitDefEqProofs [hw0, hw1, hd0, hd1, hm, hml, hr, hh, hll2, hok, hsh, boxAt, spHas]; rfl) ?_)
          | with_reducible refine wp_region (seg_eval (by simp -dsimp -implicitDefEqProofs [hw0, hw1, hd0, hd1, hm, hml, hr, hh, hll2, hok, hsh, boxAt, spHas]; rfl) ?_)
          | with_reducible refine wp_drawsS (seg_eval (by simp -dsimp -implicitDefEqProofs [hw0, hw1, hd0, hd1, hm, hml, hr, hh, hll2, hok, hsh, boxAt, spHas]; rfl) ?_)
          | with_reducible refine wp_draws (seg_eval (by simp -dsimp -implicitDefEqProofs [hw0, hw1, hd0, hd1, hm, hml, hr, hh, hll2, hok, hsh, boxAt, spHas]; rfl) ?_)
          | with_reducible refine seg_fin ?_
          | with_reducible refine seg_pan ?_
          | with_reducible refine seg_both ?_ ?_
          | with_reducible refine seg_case (fun x h => ?_) (fun h => ?_)
          | with_reducible refine seg_gate (fun h => ?_) (fun h => ?_)
          | with_reducible refine seg_need ?_ ?_
          | with_reducible refine wp_assoc ?_ | with_reducible refine wp_skipS ?_ | with_reducible refine wp_retS ?_ | with_reducible refine wp_exitS ?_ | with_reducible refine wp_dropS (wp_eqT (by simp -dsimp -implicitDefEqProofs [hw0, hw1, hd0, hd1, hm, hml, hr, hh, hll2, hok, hsh, boxAt, spHas]; rfl) ?_) | with_reducible refine wp_sealS (by simp -dsimp -implicitDefEqProofs [hw0, hw1, hd0, hd1, hm, hml, hr, hh, hll2, hok, hsh, boxAt, spHas]; rfl) ?_ | with_reducible refine wp_seal (by simp -dsimp -implicitDefEqProofs [hw0, hw1, hd0, hd1, hm, hml, hr, hh, hll2, hok, hsh, boxAt, spHas]; rfl) ?_ | with_reducible refine wp_closeS (by simp -dsimp -implicitDefEqProofs [hw0, hw1, hd0, hd1, hm, hml, hr, hh, hll2, hok, hsh, boxAt, spHas]; rfl) ?_ | with_reducible refine wp_close (by simp -dsimp -implicitDefEqProofs [hw0, hw1, hd0, hd1, hm, hml, hr, hh, hll2, hok, hsh, boxAt, spHas]; rfl) ?_ | with_reducible refine wp_conc_out ?_ | with_reducible refine wp_open_out ?_ | with_reducible refine wp_pack_out ?_ | with_reducible refine wp_blockS ?_ | with_reducible refine wp_skip' ?_ | with_reducible refine wp_ret' ?_ | with_reducible refine wp_exit' ?_ | with_reducible refine wp_drop (wp_eqT (by simp -dsimp -implicitDefEqProofs [hw0, hw1, hd0, hd1, hm, hml, hr, hh, hll2, hok, hsh, boxAt, spHas]; rfl) ?_) | with_reducible refine wp_block' ?_
          | with_reducible refine wp_condVS (by simp -dsimp -implicitDefEqProofs [hw0, hw1, hd0, hd1, hm, hml, hr, hh, hll2, hok, hsh, boxAt, spHas]; rfl) ?_
          | with_reducible refine wp_condV (by simp -dsimp -implicitDefEqProofs [hw0, hw1, hd0, hd1, hm, hml, hr, hh, hll2, hok, hsh, boxAt, spHas]; rfl) ?_
          | with_reducible refine cond_t ?_ | with_reducible refine cond_f ?_ | with_reducible refine cond_v (fun h => ?_) (fun h => ?_)
          | with_reducible refine post_then ?_ | with_reducible refine post_thenE ?_ | with_reducible refine post_thenP ?_ | with_reducible refine post_blkP ?_ | with_reducible refine post_thenR ?_ | with_reducible refine post_blkN ?_ | with_reducible refine post_blkE ?_ | with_reducible refine post_blkF rfl ?_ | with_reducible refine post_blkR ?_
          | with_reducible refine seg_eval (by simp -dsimp -implicitDefEqProofs [hw0, hw1, hd0, hd1, hm, hml, hr, hh, hll2, hok, hsh, boxAt, spHas]; rfl) ?_
      all_goals first
        | omega
        | exact hok
        | exact post_fin rfl rfl ⟨[], [], rfl, rfl, rfl, rfl⟩
        | trace_state
    · repeat' first
          | with_reducible refine wp_regionS (seg_eval (by simp -dsimp -implicitDefEqProofs [hw0, hw1, hd0, hd1, hm, hml, hr, hh, hll2, hok, hsh, boxAt, spHas]; rfl) ?_)
          | with_reducible refine wp_region (seg_eval (by simp -dsimp -implicitDefEqProofs [hw0, hw1, hd0, hd1, hm, hml, hr, hh, hll2, hok, hsh, boxAt, spHas]; rfl) ?_)
          | with_reducible refine wp_drawsS (seg_eval (by simp -dsimp -implicitDefEqProofs [hw0, hw1, hd0, hd1, hm, hml, hr, hh, hll2, hok, hsh, boxAt, spHas]; rfl) ?_)
          | with_reducible refine wp_draws (seg_eval (by simp -dsimp -implicitDefEqProofs [hw0, hw1, hd0, hd1, hm, hml, hr, hh, hll2, hok, hsh, boxAt, spHas]; rfl) ?_)
          | with_reducible refine seg_fin ?_
          | with_reducible refine seg_pan ?_
          | with_reducible refine seg_both ?_ ?_
          | with_reducible refine seg_case (fun x h => ?_) (fun h => ?_)
          | with_reducible refine seg_gate (fun h => ?_) (fun h => ?_)
          | with_reducible refine seg_need ?_ ?_
          | with_reducible refine wp_assoc ?_ | with_reducible refine wp_skipS ?_ | with_reducible refine wp_retS ?_ | with_reducible refine wp_exitS ?_ | with_reducible refine wp_dropS (wp_eqT (by simp -dsimp -implicitDefEqProofs [hw0, hw1, hd0, hd1, hm, hml, hr, hh, hll2, hok, hsh, boxAt, spHas]; rfl) ?_) | with_reducible refine wp_sealS (by simp -dsimp -implicitDefEqProofs [hw0, hw1, hd0, hd1, hm, hml, hr, hh, hll2, hok, hsh, boxAt, spHas]; rfl) ?_ | with_reducible refine wp_seal (by simp -dsimp -implicitDefEqProofs [hw0, hw1, hd0, hd1, hm, hml, hr, hh, hll2, hok, hsh, boxAt, spHas]; rfl) ?_ | with_reducible refine wp_closeS (by simp -dsimp -implicitDefEqProofs [hw0, hw1, hd0, hd1, hm, hml, hr, hh, hll2, hok, hsh, boxAt, spHas]; rfl) ?_ | with_reducible refine wp_close (by simp -dsimp -implicitDefEqProofs [hw0, hw1, hd0, hd1, hm, hml, hr, hh, hll2, hok, hsh, boxAt, spHas]; rfl) ?_ | with_reducible refine wp_conc_out ?_ | with_reducible refine wp_open_out ?_ | with_reducible refine wp_pack_out ?_ | with_reducible refine wp_blockS ?_ | with_reducible refine wp_skip' ?_ | with_reducible refine wp_ret' ?_ | with_reducible refine wp_exit' ?_ | with_reducible refine wp_drop (wp_eqT (by simp -dsimp -implicitDefEqProofs [hw0, hw1, hd0, hd1, hm, hml, hr, hh, hll2, hok, hsh, boxAt, spHas]; rfl) ?_) | with_reducible refine wp_block' ?_
          | with_reducible refine wp_condVS (by simp -dsimp -implicitDefEqProofs [hw0, hw1, hd0, hd1, hm, hml, hr, hh, hll2, hok, hsh, boxAt, spHas]; rfl) ?_
          | with_reducible refine wp_condV (by simp -dsimp -implicitDefEqProofs [hw0, hw1, hd0, hd1, hm, hml, hr, hh, hll2, hok, hsh, boxAt, spHas]; rfl) ?_
          | with_reducible refine cond_t ?_ | with_reducible refine cond_f ?_ | with_reducible refine cond_v (fun h => ?_) (fun h => ?_)
          | with_reducible refine post_then ?_ | with_reducible refine post_thenE ?_ | with_reducible refine post_thenP ?_ | with_reducible refine post_blkP ?_ | with_reducible refine post_thenR ?_ | with_reducible refine post_blkN ?_ | with_reducible refine post_blkE ?_ | with_reducible refine post_blkF rfl ?_ | with_reducible refine post_blkR ?_
          | with_reducible refine seg_eval (by simp -dsimp -implicitDefEqProofs [hw0, hw1, hd0, hd1, hm, hml, hr, hh, hll2, hok, hsh, boxAt, spHas]; rfl) ?_
      · exact hok
      refine wp_loop' (fun j ts mm => ∃ i : Nat, i + j = l.length ∧ (∀ k x, k < i → l[k]? = some x → x.who ≠ w) ∧
        ts = [(2, .ptr 0 0 0), (3, .fptr (.agg [.v (.int .u8 w), .v (.bool a), .v (.int .u8 d)]) 0), (4, .ptr 1 0 0), (6, .osl 2), (7, .v (.bool (decide (posK keyCt w l < i)))), (8, .v (.int .i64 i))] ∧
        mm = [.var [.v (.int .i64 v), .v (.int .u16 (m : Nat)), .fsl 3 (l.map avCt)], .var [.v (.int .i64 0), .v (.int .u16 0), .v (.slice none 0 0)], .arr 63 3 ((upToC w ⟨w, a, d⟩ l i).map avCt)]) l.length ?_ ?_
      · exact ⟨[(6, 63, 3)], [0, 2, 3], rfl, rfl, 0, by omega, fun k x hk => by omega, by simp, by simp [upToC_zero]⟩
      · rintro j ts mm ⟨i, hi, hlo, rfl, rfl⟩
        have hul := upToC_len (w := w) (m := ⟨w, a, d⟩) (l := l) (i := i) (by omega)
        by_cases hlt : i < l.length
        · obtain ⟨x, hx⟩ : ∃ x, l[i]? = some x := ⟨_, List.getElem?_eq_getElem (by omega)⟩
          have hxo := hok x (List.mem_of_getElem? hx)
          have hd : decide ((i : Int) < (l.length : Int)) = true := by rw [decide_eq_true_eq]; omega
          have hd2 : decide (i < l.length) = true := by simp [hlt]
          have h64 : IntKind.wrap .i64 ((i : Int) + 1) = ((i + 1 : Nat) : Int) := by rw [IntWalk.i64_in _ (by omega)]; rfl
          have hshx : ((upToC w ⟨w, a, d⟩ l i).map avCt).all AV.shaped = true := map_shaped fun x _ => avCt_shaped x
          have hmc : (AV.agg [AV.v (.int .u8 w), .v (.bool a), .v (.int .u8 d)]).shaped = true := by simp [AV.shaped, AV.one, Value.oneCell']
          have hxc : (AV.agg [AV.v (.int .u8 x.who), .v (.bool x.add), .v (.int .u8 x.id)]).shaped = true := by simp [AV.shaped, AV.one, Value.oneCell']
          by_cases hxw : x.who = w
          · have hp : putC v m l ⟨w, a, d⟩ = (l, 9) := by
              have : isK' keyCt w l = true := by
                cases h : isK' keyCt w l with
                | true => rfl
                | false => exact absurd hxw (isK_false.1 h x (List.mem_of_getElem? hx))
              simp [putC, hr, hh, this]
            rw [hp]
            repeat' first
                | with_reducible refine wp_regionS (seg_eval (by simp -dsimp -implicitDefEqProofs [avCt, cCt, hd, hd2, h64, hx, hxw, hul]; rfl) ?_)
                | with_reducible refine wp_region (seg_eval (by simp -dsimp -implicitDefEqProofs [avCt, cCt, hd, hd2, h64, hx, hxw, hul]; rfl) ?_)
                | with_reducible refine wp_drawsS (seg_eval (by simp -dsimp -implicitDefEqProofs [avCt, cCt, hd, hd2, h64, hx, hxw, hul]; rfl) ?_)
                | with_reducible refine wp_draws (seg_eval (by simp -dsimp -implicitDefEqProofs [avCt, cCt, hd, hd2, h64, hx, hxw, hul]; rfl) ?_)
                | with_reducible refine seg_fin ?_
                | with_reducible refine seg_pan ?_
                | with_reducible refine seg_both ?_ ?_
                | with_reducible refine seg_case (fun x h => ?_) (fun h => ?_)
                | with_reducible refine seg_gate (fun h => ?_) (fun h => ?_)
                | with_reducible refine seg_need ?_ ?_
                | with_reducible refine wp_assoc ?_ | with_reducible refine wp_skipS ?_ | with_reducible refine wp_retS ?_ | with_reducible refine wp_exitS ?_ | with_reducible refine wp_dropS (wp_eqT (by simp -dsimp -implicitDefEqProofs [avCt, cCt, hd, hd2, h64, hx, hxw, hul]; rfl) ?_) | with_reducible refine wp_sealS (by simp -dsimp -implicitDefEqProofs [avCt, cCt, hd, hd2, h64, hx, hxw, hul]; rfl) ?_ | with_reducible refine wp_seal (by simp -dsimp -implicitDefEqProofs [avCt, cCt, hd, hd2, h64, hx, hxw, hul]; rfl) ?_ | with_reducible refine wp_closeS (by simp -dsimp -implicitDefEqProofs [avCt, cCt, hd, hd2, h64, hx, hxw, hul]; rfl) ?_ | with_reducible refine wp_close (by simp -dsimp -implicitDefEqProofs [avCt, cCt, hd, hd2, h64, hx, hxw, hul]; rfl) ?_ | with_reducible refine wp_conc_out ?_ | with_reducible refine wp_open_out ?_ | with_reducible refine wp_pack_out ?_ | with_reducible refine wp_blockS ?_ | with_reducible refine wp_skip' ?_ | with_reducible refine wp_ret' ?_ | with_reducible refine wp_exit' ?_ | with_reducible refine wp_drop (wp_eqT (by simp -dsimp -implicitDefEqProofs [avCt, cCt, hd, hd2, h64, hx, hxw, hul]; rfl) ?_) | with_reducible refine wp_block' ?_
                | with_reducible refine wp_condVS (by simp -dsimp -implicitDefEqProofs [avCt, cCt, hd, hd2, h64, hx, hxw, hul]; rfl) ?_
                | with_reducible refine wp_condV (by simp -dsimp -implicitDefEqProofs [avCt, cCt, hd, hd2, h64, hx, hxw, hul]; rfl) ?_
                | with_reducible refine cond_t ?_ | with_reducible refine cond_f ?_ | with_reducible refine cond_v (fun h => ?_) (fun h => ?_)
                | with_reducible refine post_then ?_ | with_reducible refine post_thenE ?_ | with_reducible refine post_thenP ?_ | with_reducible refine post_blkP ?_ | with_reducible refine post_thenR ?_ | with_reducible refine post_blkN ?_ | with_reducible refine post_blkE ?_ | with_reducible refine post_blkF rfl ?_ | with_reducible refine post_blkR ?_
                | with_reducible refine seg_eval (by simp -dsimp -implicitDefEqProofs [avCt, cCt, hd, hd2, h64, hx, hxw, hul]; rfl) ?_
            all_goals first
              | omega
              | exact post_fin rfl rfl ⟨[], [], rfl, rfl, rfl, rfl⟩
              | trace_state
          · have hxw2 : (x.who == w) = false := by simp [hxw]
            have hlo2 : ∀ k z, k < i + 1 → l[k]? = some z → z.who ≠ w := by
              intro k z hk hz
              by_cases hki : k = i
              · subst hki; rw [hx] at hz; cases hz; exact hxw
              · exact hlo k z (by omega) hz
            rcases Nat.lt_trichotomy i (posK keyCt w l) with hp | hp | hp
            · have hk := posK_lt hp hx
              have c1 : decide (posK keyCt w l < i) = false := by simp; omega
              have c2 : decide (w < x.who) = false := by rw [decide_eq_false_iff_not]; unfold keyCt at hk; omega
              have c3 : decide (posK keyCt w l < i + 1) = false := by simp; omega
              have hu := upToC_low (m := ⟨w, a, d⟩) hp hx
              repeat' first
                  | with_reducible refine wp_regionS (seg_eval (by simp -dsimp -implicitDefEqProofs [avCt, cCt, hd, hd2, h64, hx, hxw, hxw2, hul, c1, c2, hshx, hmc, hxc]; rfl) ?_)
                  | with_reducible refine wp_region (seg_eval (by simp -dsimp -implicitDefEqProofs [avCt, cCt, hd, hd2, h64, hx, hxw, hxw2, hul, c1, c2, hshx, hmc, hxc]; rfl) ?_)
                  | with_reducible refine wp_drawsS (seg_eval (by simp -dsimp -implicitDefEqProofs [avCt, cCt, hd, hd2, h64, hx, hxw, hxw2, hul, c1, c2, hshx, hmc, hxc]; rfl) ?_)
                  | with_reducible refine wp_draws (seg_eval (by simp -dsimp -implicitDefEqProofs [avCt, cCt, hd, hd2, h64, hx, hxw, hxw2, hul, c1, c2, hshx, hmc, hxc]; rfl) ?_)
                  | with_reducible refine seg_fin ?_
                  | with_reducible refine seg_pan ?_
                  | with_reducible refine seg_both ?_ ?_
                  | with_reducible refine seg_case (fun x h => ?_) (fun h => ?_)
                  | with_reducible refine seg_gate (fun h => ?_) (fun h => ?_)
                  | with_reducible refine seg_need ?_ ?_
                  | with_reducible refine wp_assoc ?_ | with_reducible refine wp_skipS ?_ | with_reducible refine wp_retS ?_ | with_reducible refine wp_exitS ?_ | with_reducible refine wp_dropS (wp_eqT (by simp -dsimp -implicitDefEqProofs [avCt, cCt, hd, hd2, h64, hx, hxw, hxw2, hul, c1, c2, hshx, hmc, hxc]; rfl) ?_) | with_reducible refine wp_sealS (by simp -dsimp -implicitDefEqProofs [avCt, cCt, hd, hd2, h64, hx, hxw, hxw2, hul, c1, c2, hshx, hmc, hxc]; rfl) ?_ | with_reducible refine wp_seal (by simp -dsimp -implicitDefEqProofs [avCt, cCt, hd, hd2, h64, hx, hxw, hxw2, hul, c1, c2, hshx, hmc, hxc]; rfl) ?_ | with_reducible refine wp_closeS (by simp -dsimp -implicitDefEqProofs [avCt, cCt, hd, hd2, h64, hx, hxw, hxw2, hul, c1, c2, hshx, hmc, hxc]; rfl) ?_ | with_reducible refine wp_close (by simp -dsimp -implicitDefEqProofs [avCt, cCt, hd, hd2, h64, hx, hxw, hxw2, hul, c1, c2, hshx, hmc, hxc]; rfl) ?_ | with_reducible refine wp_conc_out ?_ | with_reducible refine wp_open_out ?_ | with_reducible refine wp_pack_out ?_ | with_reducible refine wp_blockS ?_ | with_reducible refine wp_skip' ?_ | with_reducible refine wp_ret' ?_ | with_reducible refine wp_exit' ?_ | with_reducible refine wp_drop (wp_eqT (by simp -dsimp -implicitDefEqProofs [avCt, cCt, hd, hd2, h64, hx, hxw, hxw2, hul, c1, c2, hshx, hmc, hxc]; rfl) ?_) | with_reducible refine wp_block' ?_
                  | with_reducible refine wp_condVS (by simp -dsimp -implicitDefEqProofs [avCt, cCt, hd, hd2, h64, hx, hxw, hxw2, hul, c1, c2, hshx, hmc, hxc]; rfl) ?_
                  | with_reducible refine wp_condV (by simp -dsimp -implicitDefEqProofs [avCt, cCt, hd, hd2, h64, hx, hxw, hxw2, hul, c1, c2, hshx, hmc, hxc]; rfl) ?_
                  | with_reducible refine cond_t ?_ | with_reducible refine cond_f ?_ | with_reducible refine cond_v (fun h => ?_) (fun h => ?_)
                  | with_reducible refine post_then ?_ | with_reducible refine post_thenE ?_ | with_reducible refine post_thenP ?_ | with_reducible refine post_blkP ?_ | with_reducible refine post_thenR ?_ | with_reducible refine post_blkN ?_ | with_reducible refine post_blkE ?_ | with_reducible refine post_blkF rfl ?_ | with_reducible refine post_blkR ?_
                  | with_reducible refine seg_eval (by simp -dsimp -implicitDefEqProofs [avCt, cCt, hd, hd2, h64, hx, hxw, hxw2, hul, c1, c2, hshx, hmc, hxc]; rfl) ?_
              all_goals first
                | omega
                | exact ⟨j - 1, by omega, [], [0, 1, 4], by simp, by simp, i + 1, by omega, hlo2, by simp [c3], by simp [hu, avCt, cCt]⟩
                | trace_state
            · have hk := posK_ge hst (Nat.le_of_eq hp.symm) hx
              have c1 : decide (posK keyCt w l < i) = false := by simp; omega
              have c2 : decide (w < x.who) = true := by rw [decide_eq_true_eq]; unfold keyCt at hk; omega
              have c3 : decide (posK keyCt w l < i + 1) = true := by simp; omega
              have hu := upToC_at (m := ⟨w, a, d⟩) hp hx
              repeat' first
                  | with_reducible refine wp_regionS (seg_eval (by simp -dsimp -implicitDefEqProofs [avCt, cCt, hd, hd2, h64, hx, hxw, hxw2, hul, c1, c2, hshx, hmc, hxc]; rfl) ?_)
                  | with_reducible refine wp_region (seg_eval (by simp -dsimp -implicitDefEqProofs [avCt, cCt, hd, hd2, h64, hx, hxw, hxw2, hul, c1, c2, hshx, hmc, hxc]; rfl) ?_)
                  | with_reducible refine wp_drawsS (seg_eval (by simp -dsimp -implicitDefEqProofs [avCt, cCt, hd, hd2, h64, hx, hxw, hxw2, hul, c1, c2, hshx, hmc, hxc]; rfl) ?_)
                  | with_reducible refine wp_draws (seg_eval (by simp -dsimp -implicitDefEqProofs [avCt, cCt, hd, hd2, h64, hx, hxw, hxw2, hul, c1, c2, hshx, hmc, hxc]; rfl) ?_)
                  | with_reducible refine seg_fin ?_
                  | with_reducible refine seg_pan ?_
                  | with_reducible refine seg_both ?_ ?_
                  | with_reducible refine seg_case (fun x h => ?_) (fun h => ?_)
                  | with_reducible refine seg_gate (fun h => ?_) (fun h => ?_)
                  | with_reducible refine seg_need ?_ ?_
                  | with_reducible refine wp_assoc ?_ | with_reducible refine wp_skipS ?_ | with_reducible refine wp_retS ?_ | with_reducible refine wp_exitS ?_ | with_reducible refine wp_dropS (wp_eqT (by simp -dsimp -implicitDefEqProofs [avCt, cCt, hd, hd2, h64, hx, hxw, hxw2, hul, c1, c2, hshx, hmc, hxc]; rfl) ?_) | with_reducible refine wp_sealS (by simp -dsimp -implicitDefEqProofs [avCt, cCt, hd, hd2, h64, hx, hxw, hxw2, hul, c1, c2, hshx, hmc, hxc]; rfl) ?_ | with_reducible refine wp_seal (by simp -dsimp -implicitDefEqProofs [avCt, cCt, hd, hd2, h64, hx, hxw, hxw2, hul, c1, c2, hshx, hmc, hxc]; rfl) ?_ | with_reducible refine wp_closeS (by simp -dsimp -implicitDefEqProofs [avCt, cCt, hd, hd2, h64, hx, hxw, hxw2, hul, c1, c2, hshx, hmc, hxc]; rfl) ?_ | with_reducible refine wp_close (by simp -dsimp -implicitDefEqProofs [avCt, cCt, hd, hd2, h64, hx, hxw, hxw2, hul, c1, c2, hshx, hmc, hxc]; rfl) ?_ | with_reducible refine wp_conc_out ?_ | with_reducible refine wp_open_out ?_ | with_reducible refine wp_pack_out ?_ | with_reducible refine wp_blockS ?_ | with_reducible refine wp_skip' ?_ | with_reducible refine wp_ret' ?_ | with_reducible refine wp_exit' ?_ | with_reducible refine wp_drop (wp_eqT (by simp -dsimp -implicitDefEqProofs [avCt, cCt, hd, hd2, h64, hx, hxw, hxw2, hul, c1, c2, hshx, hmc, hxc]; rfl) ?_) | with_reducible refine wp_block' ?_
                  | with_reducible refine wp_condVS (by simp -dsimp -implicitDefEqProofs [avCt, cCt, hd, hd2, h64, hx, hxw, hxw2, hul, c1, c2, hshx, hmc, hxc]; rfl) ?_
                  | with_reducible refine wp_condV (by simp -dsimp -implicitDefEqProofs [avCt, cCt, hd, hd2, h64, hx, hxw, hxw2, hul, c1, c2, hshx, hmc, hxc]; rfl) ?_
                  | with_reducible refine cond_t ?_ | with_reducible refine cond_f ?_ | with_reducible refine cond_v (fun h => ?_) (fun h => ?_)
                  | with_reducible refine post_then ?_ | with_reducible refine post_thenE ?_ | with_reducible refine post_thenP ?_ | with_reducible refine post_blkP ?_ | with_reducible refine post_thenR ?_ | with_reducible refine post_blkN ?_ | with_reducible refine post_blkE ?_ | with_reducible refine post_blkF rfl ?_ | with_reducible refine post_blkR ?_
                  | with_reducible refine seg_eval (by simp -dsimp -implicitDefEqProofs [avCt, cCt, hd, hd2, h64, hx, hxw, hxw2, hul, c1, c2, hshx, hmc, hxc]; rfl) ?_
              all_goals first
                | omega
                | exact ⟨j - 1, by omega, [], [0, 1, 6], by simp, by simp, i + 1, by omega, hlo2, by simp [c3], by simp [hu, avCt, cCt]⟩
                | trace_state
            · have c1 : decide (posK keyCt w l < i) = true := by simp; omega
              have c3 : decide (posK keyCt w l < i + 1) = true := by simp; omega
              have hu := upToC_high (m := ⟨w, a, d⟩) hp hx
              repeat' first
                  | with_reducible refine wp_regionS (seg_eval (by simp -dsimp -implicitDefEqProofs [avCt, cCt, hd, hd2, h64, hx, hxw, hxw2, hul, c1, hshx, hmc, hxc]; rfl) ?_)
                  | with_reducible refine wp_region (seg_eval (by simp -dsimp -implicitDefEqProofs [avCt, cCt, hd, hd2, h64, hx, hxw, hxw2, hul, c1, hshx, hmc, hxc]; rfl) ?_)
                  | with_reducible refine wp_drawsS (seg_eval (by simp -dsimp -implicitDefEqProofs [avCt, cCt, hd, hd2, h64, hx, hxw, hxw2, hul, c1, hshx, hmc, hxc]; rfl) ?_)
                  | with_reducible refine wp_draws (seg_eval (by simp -dsimp -implicitDefEqProofs [avCt, cCt, hd, hd2, h64, hx, hxw, hxw2, hul, c1, hshx, hmc, hxc]; rfl) ?_)
                  | with_reducible refine seg_fin ?_
                  | with_reducible refine seg_pan ?_
                  | with_reducible refine seg_both ?_ ?_
                  | with_reducible refine seg_case (fun x h => ?_) (fun h => ?_)
                  | with_reducible refine seg_gate (fun h => ?_) (fun h => ?_)
                  | with_reducible refine seg_need ?_ ?_
                  | with_reducible refine wp_assoc ?_ | with_reducible refine wp_skipS ?_ | with_reducible refine wp_retS ?_ | with_reducible refine wp_exitS ?_ | with_reducible refine wp_dropS (wp_eqT (by simp -dsimp -implicitDefEqProofs [avCt, cCt, hd, hd2, h64, hx, hxw, hxw2, hul, c1, hshx, hmc, hxc]; rfl) ?_) | with_reducible refine wp_sealS (by simp -dsimp -implicitDefEqProofs [avCt, cCt, hd, hd2, h64, hx, hxw, hxw2, hul, c1, hshx, hmc, hxc]; rfl) ?_ | with_reducible refine wp_seal (by simp -dsimp -implicitDefEqProofs [avCt, cCt, hd, hd2, h64, hx, hxw, hxw2, hul, c1, hshx, hmc, hxc]; rfl) ?_ | with_reducible refine wp_closeS (by simp -dsimp -implicitDefEqProofs [avCt, cCt, hd, hd2, h64, hx, hxw, hxw2, hul, c1, hshx, hmc, hxc]; rfl) ?_ | with_reducible refine wp_close (by simp -dsimp -implicitDefEqProofs [avCt, cCt, hd, hd2, h64, hx, hxw, hxw2, hul, c1, hshx, hmc, hxc]; rfl) ?_ | with_reducible refine wp_conc_out ?_ | with_reducible refine wp_open_out ?_ | with_reducible refine wp_pack_out ?_ | with_reducible refine wp_blockS ?_ | with_reducible refine wp_skip' ?_ | with_reducible refine wp_ret' ?_ | with_reducible refine wp_exit' ?_ | with_reducible refine wp_drop (wp_eqT (by simp -dsimp -implicitDefEqProofs [avCt, cCt, hd, hd2, h64, hx, hxw, hxw2, hul, c1, hshx, hmc, hxc]; rfl) ?_) | with_reducible refine wp_block' ?_
                  | with_reducible refine wp_condVS (by simp -dsimp -implicitDefEqProofs [avCt, cCt, hd, hd2, h64, hx, hxw, hxw2, hul, c1, hshx, hmc, hxc]; rfl) ?_
                  | with_reducible refine wp_condV (by simp -dsimp -implicitDefEqProofs [avCt, cCt, hd, hd2, h64, hx, hxw, hxw2, hul, c1, hshx, hmc, hxc]; rfl) ?_
                  | with_reducible refine cond_t ?_ | with_reducible refine cond_f ?_ | with_reducible refine cond_v (fun h => ?_) (fun h => ?_)
                  | with_reducible refine post_then ?_ | with_reducible refine post_thenE ?_ | with_reducible refine post_thenP ?_ | with_reducible refine post_blkP ?_ | with_reducible refine post_thenR ?_ | with_reducible refine post_blkN ?_ | with_reducible refine post_blkE ?_ | with_reducible refine post_blkF rfl ?_ | with_reducible refine post_blkR ?_
                  | with_reducible refine seg_eval (by simp -dsimp -implicitDefEqProofs [avCt, cCt, hd, hd2, h64, hx, hxw, hxw2, hul, c1, hshx, hmc, hxc]; rfl) ?_
              all_goals first
                | omega
                | exact ⟨j - 1, by omega, [], [0, 1, 4], by simp, by simp, i + 1, by omega, hlo2, by simp [c3], by simp [hu, avCt, cCt]⟩
                | trace_state
        · have hd : decide ((i : Int) < (l.length : Int)) = false := by rw [decide_eq_false_iff_not]; omega
          have hd2 : decide (i < l.length) = false := by simp [hlt]
          have hil : i = l.length := by omega
          subst hil
          have hi2 : isK' keyCt w l = false := isK_false.2 fun x hx => by
            obtain ⟨k, hk⟩ := List.mem_iff_getElem?.1 hx
            exact hlo k x (List.getElem?_eq_some_iff.1 hk).1 hk
          have hshx : ((upToC w ⟨w, a, d⟩ l l.length).map avCt).all AV.shaped = true := map_shaped fun x _ => avCt_shaped x
          have hmc : (AV.agg [AV.v (.int .u8 w), .v (.bool a), .v (.int .u8 d)]).shaped = true := by simp [AV.shaped, AV.one, Value.oneCell']
          by_cases hpl : posK keyCt w l < l.length
          · have hu := upToC_all (m := ⟨w, a, d⟩) hpl
            have c1 : decide (posK keyCt w l < l.length) = true := by simp [hpl]
            simp only at hu
            rw [hu] at hul hshx ⊢
            by_cases hf : (applyV v m a d.toNat).2 = 0
            · have hp : putC v m l ⟨w, a, d⟩ = (insK keyCt ⟨w, a, d⟩ l, 0) := by simp [putC, hr, hh, hi2, hf]
              have ha2 : ((applyV v m a d.toNat).2 != 0) = false := by simp [hf]
              rw [hp]
              repeat' first
                  | with_reducible refine wp_regionS (seg_eval (by simp -dsimp -implicitDefEqProofs [hd, hd2, hw0, hw1, hd0, hd1, hm, hml, hul, c1, hshx, hmc, hf, ha2, spApplyV]; rfl) ?_)
                  | with_reducible refine wp_region (seg_eval (by simp -dsimp -implicitDefEqProofs [hd, hd2, hw0, hw1, hd0, hd1, hm, hml, hul, c1, hshx, hmc, hf, ha2, spApplyV]; rfl) ?_)
                  | with_reducible refine wp_drawsS (seg_eval (by simp -dsimp -implicitDefEqProofs [hd, hd2, hw0, hw1, hd0, hd1, hm, hml, hul, c1, hshx, hmc, hf, ha2, spApplyV]; rfl) ?_)
                  | with_reducible refine wp_draws (seg_eval (by simp -dsimp -implicitDefEqProofs [hd, hd2, hw0, hw1, hd0, hd1, hm, hml, hul, c1, hshx, hmc, hf, ha2, spApplyV]; rfl) ?_)
                  | with_reducible refine seg_fin ?_
                  | with_reducible refine seg_pan ?_
                  | with_reducible refine seg_both ?_ ?_
                  | with_reducible refine seg_case (fun x h => ?_) (fun h => ?_)
                  | with_reducible refine seg_gate (fun h => ?_) (fun h => ?_)
                  | with_reducible refine seg_need ?_ ?_
                  | with_reducible refine wp_assoc ?_ | with_reducible refine wp_skipS ?_ | with_reducible refine wp_retS ?_ | with_reducible refine wp_exitS ?_ | with_reducible refine wp_dropS (wp_eqT (by simp -dsimp -implicitDefEqProofs [hd, hd2, hw0, hw1, hd0, hd1, hm, hml, hul, c1, hshx, hmc, hf, ha2, spApplyV]; rfl) ?_) | with_reducible refine wp_sealS (by simp -dsimp -implicitDefEqProofs [hd, hd2, hw0, hw1, hd0, hd1, hm, hml, hul, c1, hshx, hmc, hf, ha2, spApplyV]; rfl) ?_ | with_reducible refine wp_seal (by simp -dsimp -implicitDefEqProofs [hd, hd2, hw0, hw1, hd0, hd1, hm, hml, hul, c1, hshx, hmc, hf, ha2, spApplyV]; rfl) ?_ | with_reducible refine wp_closeS (by simp -dsimp -implicitDefEqProofs [hd, hd2, hw0, hw1, hd0, hd1, hm, hml, hul, c1, hshx, hmc, hf, ha2, spApplyV]; rfl) ?_ | with_reducible refine wp_close (by simp -dsimp -implicitDefEqProofs [hd, hd2, hw0, hw1, hd0, hd1, hm, hml, hul, c1, hshx, hmc, hf, ha2, spApplyV]; rfl) ?_ | with_reducible refine wp_conc_out ?_ | with_reducible refine wp_open_out ?_ | with_reducible refine wp_pack_out ?_ | with_reducible refine wp_blockS ?_ | with_reducible refine wp_skip' ?_ | with_reducible refine wp_ret' ?_ | with_reducible refine wp_exit' ?_ | with_reducible refine wp_drop (wp_eqT (by simp -dsimp -implicitDefEqProofs [hd, hd2, hw0, hw1, hd0, hd1, hm, hml, hul, c1, hshx, hmc, hf, ha2, spApplyV]; rfl) ?_) | with_reducible refine wp_block' ?_
                  | with_reducible refine wp_condVS (by simp -dsimp -implicitDefEqProofs [hd, hd2, hw0, hw1, hd0, hd1, hm, hml, hul, c1, hshx, hmc, hf, ha2, spApplyV]; rfl) ?_
                  | with_reducible refine wp_condV (by simp -dsimp -implicitDefEqProofs [hd, hd2, hw0, hw1, hd0, hd1, hm, hml, hul, c1, hshx, hmc, hf, ha2, spApplyV]; rfl) ?_
                  | with_reducible refine cond_t ?_ | with_reducible refine cond_f ?_ | with_reducible refine cond_v (fun h => ?_) (fun h => ?_)
                  | with_reducible refine post_then ?_ | with_reducible refine post_thenE ?_ | with_reducible refine post_thenP ?_ | with_reducible refine post_blkP ?_ | with_reducible refine post_thenR ?_ | with_reducible refine post_blkN ?_ | with_reducible refine post_blkE ?_ | with_reducible refine post_blkF rfl ?_ | with_reducible refine post_blkR ?_
                  | with_reducible refine seg_eval (by simp -dsimp -implicitDefEqProofs [hd, hd2, hw0, hw1, hd0, hd1, hm, hml, hul, c1, hshx, hmc, hf, ha2, spApplyV]; rfl) ?_
              all_goals first
                | omega
                | exact post_fin rfl rfl ⟨[2], [], rfl, rfl, rfl, rfl⟩
                | trace_state
            · have hp : putC v m l ⟨w, a, d⟩ = (l, (applyV v m a d.toNat).2) := by simp [putC, hr, hh, hi2, hf]
              have ha2 : ((applyV v m a d.toNat).2 != 0) = true := by simp [hf]
              rw [hp]
              repeat' first
                  | with_reducible refine wp_regionS (seg_eval (by simp -dsimp -implicitDefEqProofs [hd, hd2, hw0, hw1, hd0, hd1, hm, hml, hul, c1, hshx, hmc, hf, ha2, spApplyV]; rfl) ?_)
                  | with_reducible refine wp_region (seg_eval (by simp -dsimp -implicitDefEqProofs [hd, hd2, hw0, hw1, hd0, hd1, hm, hml, hul, c1, hshx, hmc, hf, ha2, spApplyV]; rfl) ?_)
                  | with_reducible refine wp_drawsS (seg_eval (by simp -dsimp -implicitDefEqProofs [hd, hd2, hw0, hw1, hd0, hd1, hm, hml, hul, c1, hshx, hmc, hf, ha2, spApplyV]; rfl) ?_)
                  | with_reducible refine wp_draws (seg_eval (by simp -dsimp -implicitDefEqProofs [hd, hd2, hw0, hw1, hd0, hd1, hm, hml, hul, c1, hshx, hmc, hf, ha2, spApplyV]; rfl) ?_)
                  | with_reducible refine seg_fin ?_
                  | with_reducible refine seg_pan ?_
                  | with_reducible refine seg_both ?_ ?_
                  | with_reducible refine seg_case (fun x h => ?_) (fun h => ?_)
                  | with_reducible refine seg_gate (fun h => ?_) (fun h => ?_)
                  | with_reducible refine seg_need ?_ ?_
                  | with_reducible refine wp_assoc ?_ | with_reducible refine wp_skipS ?_ | with_reducible refine wp_retS ?_ | with_reducible refine wp_exitS ?_ | with_reducible refine wp_dropS (wp_eqT (by simp -dsimp -implicitDefEqProofs [hd, hd2, hw0, hw1, hd0, hd1, hm, hml, hul, c1, hshx, hmc, hf, ha2, spApplyV]; rfl) ?_) | with_reducible refine wp_sealS (by simp -dsimp -implicitDefEqProofs [hd, hd2, hw0, hw1, hd0, hd1, hm, hml, hul, c1, hshx, hmc, hf, ha2, spApplyV]; rfl) ?_ | with_reducible refine wp_seal (by simp -dsimp -implicitDefEqProofs [hd, hd2, hw0, hw1, hd0, hd1, hm, hml, hul, c1, hshx, hmc, hf, ha2, spApplyV]; rfl) ?_ | with_reducible refine wp_closeS (by simp -dsimp -implicitDefEqProofs [hd, hd2, hw0, hw1, hd0, hd1, hm, hml, hul, c1, hshx, hmc, hf, ha2, spApplyV]; rfl) ?_ | with_reducible refine wp_close (by simp -dsimp -implicitDefEqProofs [hd, hd2, hw0, hw1, hd0, hd1, hm, hml, hul, c1, hshx, hmc, hf, ha2, spApplyV]; rfl) ?_ | with_reducible refine wp_conc_out ?_ | with_reducible refine wp_open_out ?_ | with_reducible refine wp_pack_out ?_ | with_reducible refine wp_blockS ?_ | with_reducible refine wp_skip' ?_ | with_reducible refine wp_ret' ?_ | with_reducible refine wp_exit' ?_ | with_reducible refine wp_drop (wp_eqT (by simp -dsimp -implicitDefEqProofs [hd, hd2, hw0, hw1, hd0, hd1, hm, hml, hul, c1, hshx, hmc, hf, ha2, spApplyV]; rfl) ?_) | with_reducible refine wp_block' ?_
                  | with_reducible refine wp_condVS (by simp -dsimp -implicitDefEqProofs [hd, hd2, hw0, hw1, hd0, hd1, hm, hml, hul, c1, hshx, hmc, hf, ha2, spApplyV]; rfl) ?_
                  | with_reducible refine wp_condV (by simp -dsimp -implicitDefEqProofs [hd, hd2, hw0, hw1, hd0, hd1, hm, hml, hul, c1, hshx, hmc, hf, ha2, spApplyV]; rfl) ?_
                  | with_reducible refine cond_t ?_ | with_reducible refine cond_f ?_ | with_reducible refine cond_v (fun h => ?_) (fun h => ?_)
                  | with_reducible refine post_then ?_ | with_reducible refine post_thenE ?_ | with_reducible refine post_thenP ?_ | with_reducible refine post_blkP ?_ | with_reducible refine post_thenR ?_ | with_reducible refine post_blkN ?_ | with_reducible refine post_blkE ?_ | with_reducible refine post_blkF rfl ?_ | with_reducible refine post_blkR ?_
                  | with_reducible refine seg_eval (by simp -dsimp -implicitDefEqProofs [hd, hd2, hw0, hw1, hd0, hd1, hm, hml, hul, c1, hshx, hmc, hf, ha2, spApplyV]; rfl) ?_
              all_goals first
                | omega
                | exact post_fin rfl rfl ⟨[], [], rfl, rfl, rfl, rfl⟩
                | trace_state
          · have hu := upToC_end (m := ⟨w, a, d⟩) (Nat.le_of_not_lt hpl)
            have c1 : decide (posK keyCt w l < l.length) = false := by simp; omega
            simp only at hu
            have hum : (insK keyCt ⟨w, a, d⟩ l).map avCt = (upToC w ⟨w, a, d⟩ l l.length).map avCt ++ [AV.agg [AV.v (.int .u8 w), .v (.bool a), .v (.int .u8 d)]] := by rw [← hu]; simp [avCt, cCt]
            by_cases hf : (applyV v m a d.toNat).2 = 0
            · have hp : putC v m l ⟨w, a, d⟩ = (insK keyCt ⟨w, a, d⟩ l, 0) := by simp [putC, hr, hh, hi2, hf]
              have ha2 : ((applyV v m a d.toNat).2 != 0) = false := by simp [hf]
              rw [hp]
              simp only
              rw [hum]
              repeat' first
                  | with_reducible refine wp_regionS (seg_eval (by simp -dsimp -implicitDefEqProofs [hd, hd2, hw0, hw1, hd0, hd1, hm, hml, hul, c1, hshx, hmc, hf, ha2, spApplyV]; rfl) ?_)
                  | with_reducible refine wp_region (seg_eval (by simp -dsimp -implicitDefEqProofs [hd, hd2, hw0, hw1, hd0, hd1, hm, hml, hul, c1, hshx, hmc, hf, ha2, spApplyV]; rfl) ?_)
                  | with_reducible refine wp_drawsS (seg_eval (by simp -dsimp -implicitDefEqProofs [hd, hd2, hw0, hw1, hd0, hd1, hm, hml, hul, c1, hshx, hmc, hf, ha2, spApplyV]; rfl) ?_)
                  | with_reducible refine wp_draws (seg_eval (by simp -dsimp -implicitDefEqProofs [hd, hd2, hw0, hw1, hd0, hd1, hm, hml, hul, c1, hshx, hmc, hf, ha2, spApplyV]; rfl) ?_)
                  | with_reducible refine seg_fin ?_
                  | with_reducible refine seg_pan ?_
                  | with_reducible refine seg_both ?_ ?_
                  | with_reducible refine seg_case (fun x h => ?_) (fun h => ?_)
                  | with_reducible refine seg_gate (fun h => ?_) (fun h => ?_)
                  | with_reducible refine seg_need ?_ ?_
                  | with_reducible refine wp_assoc ?_ | with_reducible refine wp_skipS ?_ | with_reducible refine wp_retS ?_ | with_reducible refine wp_exitS ?_ | with_reducible refine wp_dropS (wp_eqT (by simp -dsimp -implicitDefEqProofs [hd, hd2, hw0, hw1, hd0, hd1, hm, hml, hul, c1, hshx, hmc, hf, ha2, spApplyV]; rfl) ?_) | with_reducible refine wp_sealS (by simp -dsimp -implicitDefEqProofs [hd, hd2, hw0, hw1, hd0, hd1, hm, hml, hul, c1, hshx, hmc, hf, ha2, spApplyV]; rfl) ?_ | with_reducible refine wp_seal (by simp -dsimp -implicitDefEqProofs [hd, hd2, hw0, hw1, hd0, hd1, hm, hml, hul, c1, hshx, hmc, hf, ha2, spApplyV]; rfl) ?_ | with_reducible refine wp_closeS (by simp -dsimp -implicitDefEqProofs [hd, hd2, hw0, hw1, hd0, hd1, hm, hml, hul, c1, hshx, hmc, hf, ha2, spApplyV]; rfl) ?_ | with_reducible refine wp_close (by simp -dsimp -implicitDefEqProofs [hd, hd2, hw0, hw1, hd0, hd1, hm, hml, hul, c1, hshx, hmc, hf, ha2, spApplyV]; rfl) ?_ | with_reducible refine wp_conc_out ?_ | with_reducible refine wp_open_out ?_ | with_reducible refine wp_pack_out ?_ | with_reducible refine wp_blockS ?_ | with_reducible refine wp_skip' ?_ | with_reducible refine wp_ret' ?_ | with_reducible refine wp_exit' ?_ | with_reducible refine wp_drop (wp_eqT (by simp -dsimp -implicitDefEqProofs [hd, hd2, hw0, hw1, hd0, hd1, hm, hml, hul, c1, hshx, hmc, hf, ha2, spApplyV]; rfl) ?_) | with_reducible refine wp_block' ?_
                  | with_reducible refine wp_condVS (by simp -dsimp -implicitDefEqProofs [hd, hd2, hw0, hw1, hd0, hd1, hm, hml, hul, c1, hshx, hmc, hf, ha2, spApplyV]; rfl) ?_
                  | with_reducible refine wp_condV (by simp -dsimp -implicitDefEqProofs [hd, hd2, hw0, hw1, hd0, hd1, hm, hml, hul, c1, hshx, hmc, hf, ha2, spApplyV]; rfl) ?_
                  | with_reducible refine cond_t ?_ | with_reducible refine cond_f ?_ | with_reducible refine cond_v (fun h => ?_) (fun h => ?_)
                  | with_reducible refine post_then ?_ | with_reducible refine post_thenE ?_ | with_reducible refine post_thenP ?_ | with_reducible refine post_blkP ?_ | with_reducible refine post_thenR ?_ | with_reducible refine post_blkN ?_ | with_reducible refine post_blkE ?_ | with_reducible refine post_blkF rfl ?_ | with_reducible refine post_blkR ?_
                  | with_reducible refine seg_eval (by simp -dsimp -implicitDefEqProofs [hd, hd2, hw0, hw1, hd0, hd1, hm, hml, hul, c1, hshx, hmc, hf, ha2, spApplyV]; rfl) ?_
              all_goals first
                | omega
                | exact post_fin rfl rfl ⟨[4], [], rfl, rfl, rfl, rfl⟩
                | trace_state
            · have hp : putC v m l ⟨w, a, d⟩ = (l, (applyV v m a d.toNat).2) := by simp [putC, hr, hh, hi2, hf]
              have ha2 : ((applyV v m a d.toNat).2 != 0) = true := by simp [hf]
              rw [hp]
              repeat' first
                  | with_reducible refine wp_regionS (seg_eval (by simp -dsimp -implicitDefEqProofs [hd, hd2, hw0, hw1, hd0, hd1, hm, hml, hul, c1, hshx, hmc, hf, ha2, spApplyV]; rfl) ?_)
                  | with_reducible refine wp_region (seg_eval (by simp -dsimp -implicitDefEqProofs [hd, hd2, hw0, hw1, hd0, hd1, hm, hml, hul, c1, hshx, hmc, hf, ha2, spApplyV]; rfl) ?_)
                  | with_reducible refine wp_drawsS (seg_eval (by simp -dsimp -implicitDefEqProofs [hd, hd2, hw0, hw1, hd0, hd1, hm, hml, hul, c1, hshx, hmc, hf, ha2, spApplyV]; rfl) ?_)
                  | with_reducible refine wp_draws (seg_eval (by simp -dsimp -implicitDefEqProofs [hd, hd2, hw0, hw1, hd0, hd1, hm, hml, hul, c1, hshx, hmc, hf, ha2, spApplyV]; rfl) ?_)
                  | with_reducible refine seg_fin ?_
                  | with_reducible refine seg_pan ?_
                  | with_reducible refine seg_both ?_ ?_
                  | with_reducible refine seg_case (fun x h => ?_) (fun h => ?_)
                  | with_reducible refine seg_gate (fun h => ?_) (fun h => ?_)
                  | with_reducible refine seg_need ?_ ?_
                  | with_reducible refine wp_assoc ?_ | with_reducible refine wp_skipS ?_ | with_reducible refine wp_retS ?_ | with_reducible refine wp_exitS ?_ | with_reducible refine wp_dropS (wp_eqT (by simp -dsimp -implicitDefEqProofs [hd, hd2, hw0, hw1, hd0, hd1, hm, hml, hul, c1, hshx, hmc, hf, ha2, spApplyV]; rfl) ?_) | with_reducible refine wp_sealS (by simp -dsimp -implicitDefEqProofs [hd, hd2, hw0, hw1, hd0, hd1, hm, hml, hul, c1, hshx, hmc, hf, ha2, spApplyV]; rfl) ?_ | with_reducible refine wp_seal (by simp -dsimp -implicitDefEqProofs [hd, hd2, hw0, hw1, hd0, hd1, hm, hml, hul, c1, hshx, hmc, hf, ha2, spApplyV]; rfl) ?_ | with_reducible refine wp_closeS (by simp -dsimp -implicitDefEqProofs [hd, hd2, hw0, hw1, hd0, hd1, hm, hml, hul, c1, hshx, hmc, hf, ha2, spApplyV]; rfl) ?_ | with_reducible refine wp_close (by simp -dsimp -implicitDefEqProofs [hd, hd2, hw0, hw1, hd0, hd1, hm, hml, hul, c1, hshx, hmc, hf, ha2, spApplyV]; rfl) ?_ | with_reducible refine wp_conc_out ?_ | with_reducible refine wp_open_out ?_ | with_reducible refine wp_pack_out ?_ | with_reducible refine wp_blockS ?_ | with_reducible refine wp_skip' ?_ | with_reducible refine wp_ret' ?_ | with_reducible refine wp_exit' ?_ | with_reducible refine wp_drop (wp_eqT (by simp -dsimp -implicitDefEqProofs [hd, hd2, hw0, hw1, hd0, hd1, hm, hml, hul, c1, hshx, hmc, hf, ha2, spApplyV]; rfl) ?_) | with_reducible refine wp_block' ?_
                  | with_reducible refine wp_condVS (by simp -dsimp -implicitDefEqProofs [hd, hd2, hw0, hw1, hd0, hd1, hm, hml, hul, c1, hshx, hmc, hf, ha2, spApplyV]; rfl) ?_
                  | with_reducible refine wp_condV (by simp -dsimp -implicitDefEqProofs [hd, hd2, hw0, hw1, hd0, hd1, hm, hml, hul, c1, hshx, hmc, hf, ha2, spApplyV]; rfl) ?_
                  | with_reducible refine cond_t ?_ | with_reducible refine cond_f ?_ | with_reducible refine cond_v (fun h => ?_) (fun h => ?_)
                  | with_reducible refine post_then ?_ | with_reducible refine post_thenE ?_ | with_reducible refine post_thenP ?_ | with_reducible refine post_blkP ?_ | with_reducible refine post_thenR ?_ | with_reducible refine post_blkN ?_ | with_reducible refine post_blkE ?_ | with_reducible refine post_blkF rfl ?_ | with_reducible refine post_blkR ?_
                  | with_reducible refine seg_eval (by simp -dsimp -implicitDefEqProofs [hd, hd2, hw0, hw1, hd0, hd1, hm, hml, hul, c1, hshx, hmc, hf, ha2, spApplyV]; rfl) ?_
              all_goals first
                | omega
                | exact post_fin rfl rfl ⟨[], [], rfl, rfl, rfl, rfl⟩
                | trace_state
end Go.Proofs.Ytbponegjfccgfaa.Am
namespace Go.Proofs.Ytbponegjfccgfaa.Am
set_option linter.unusedSimpArgs false
set_option linter.unusedVariables false
open Go Go.Proofs
attribute [local irreducible] wpA
attribute [-simp] splice

def forS (l : List Ct) (a : Bool) (d : Int) : Nat := l.foldl (fun s x => if x.add = a ∧ x.id = d then withS s x.who.toNat else s) 0
theorem forS_snoc (l : List Ct) (x : Ct) (a : Bool) (d : Int) : forS (l ++ [x]) a d = if x.add = a ∧ x.id = d then withS (forS l a d) x.who.toNat else forS l a d := by simp [forS]
theorem forS_lt' : ∀ (l : List Ct) (a : Bool) (d : Int) (z : Nat), z < 65536 → l.foldl (fun s x => if x.add = a ∧ x.id = d then withS s x.who.toNat else s) z < 65536
  | [], _, _, z, h => h
  | x :: l, a, d, z, h => by
    simp only [List.foldl_cons]
    refine forS_lt' l a d _ ?_
    split
    · exact withS_lt h _
    · exact h
theorem forS_lt (l : List Ct) (a : Bool) (d : Int) : forS l a d < 65536 := forS_lt' l a d 0 (by omega)
noncomputable def forC (v : Int) (m : Nat) (l : List Ct) (a : Bool) (d : Int) : Nat := if boxB v m l = true then forS l a d else 0
theorem forC_lt (v : Int) (m : Nat) (l : List Ct) (a : Bool) (d : Int) : forC v m l a d < 65536 := by
  unfold forC; split
  · exact forS_lt l a d
  · omega
theorem eqCells_bi (a b : Bool) (i j : Int) : eqCells [.b, .i] [.v (.bool a), .v (.int .u8 i)] [.v (.bool b), .v (.int .u8 j)] = some (a == b && i == j) := by simp [eqCells]
noncomputable def spForC : Spec := spc (X := Int × Nat × List Ct × Bool × Int) (fun p => ([avBox p.1 p.2.1 p.2.2.1, .agg [.v (.bool p.2.2.2.1), .v (.int .u8 p.2.2.2.2)]], []))
  (fun p => p.2.1 < 65536 ∧ p.2.2.1.length ≤ 1000000 ∧ (∀ y ∈ p.2.2.1, okCt y))
  (fun p => (.ret (.v (.int .u16 (forC p.1 p.2.1 p.2.2.1 p.2.2.2.1 p.2.2.2.2 : Nat))), []))
open Classical in
theorem forCAt (v : Int) (m : Nat) (l : List Ct) (a : Bool) (d : Int) : spForC [.agg [.v (.int .i64 v), .v (.int .u16 (m : Nat)), .fsl 3 (l.map avCt)], .agg [.v (.bool a), .v (.int .u8 d)]] [] =
    if m < 65536 ∧ l.length ≤ 1000000 ∧ (∀ y ∈ l, okCt y) then some (.ret (.v (.int .u16 (forC v m l a d : Nat))), []) else none :=
  spc_at (f := fun p : Int × Nat × List Ct × Bool × Int => ([avBox p.1 p.2.1 p.2.2.1, .agg [.v (.bool p.2.2.2.1), .v (.int .u8 p.2.2.2.2)]], [])) (fun x y h => by
    simp only [Prod.mk.injEq, List.cons.injEq, and_true, AV.agg.injEq, AV.v.injEq, Value.bool.injEq, Value.int.injEq, true_and] at h
    obtain ⟨h1, h2, h3⟩ := avBox_inj h.1
    exact Prod.ext h1 (Prod.ext h2 (Prod.ext h3 (Prod.ext h.2.1 h.2.2)))) (v, m, l, a, d)

set_option maxHeartbeats 8000000 in
theorem forC_ok : CallOk Try.prog 33 spForC := by
  refine ok_33 (Env.put_ok [] (Env.put_ok [] (Env.none_ok _) with_ok) boxRight_ok) spForC (wb_spc ?_)
  rintro ⟨v, m, l, a, d⟩ ⟨hm, hll, hok⟩
  simp only [avBox] at hm hll hok ⊢
  have hml : (m : Int) < 65536 := by omega
  have hll2 : l.length ≤ 100000000 := by omega
  unfold ac_33
  cases hr : boxB v m l
  · have hf : forC v m l a d = 0 := by simp [forC, hr]
    rw [hf]
    repeat' first
        | with_reducible refine wp_regionS (seg_eval (by simp -dsimp -implicitDefEqProofs [hm, hml, hr, hll2, boxAt]; rfl) ?_)
        | with_reducible refine wp_region (seg_eval (by simp -dsimp -implicitDefEqProofs [hm, hml, hr, hll2, boxAt]; rfl) ?_)
        | with_reducible refine wp_drawsS (seg_eval (by simp -dsimp -implicitDefEqProofs [hm, hml, hr, hll2, boxAt]; rfl) ?_)
        | with_reducible refine wp_draws (seg_eval (by simp -dsimp -implicitDefEqProofs [hm, hml, hr, hll2, boxAt]; rfl) ?_)
        | with_reducible refine seg_fin ?_
        | with_reducible refine seg_pan ?_
        | with_reducible refine seg_both ?_ ?_
        | with_reducible refine seg_case (fun x h => ?_) (fun h => ?_)
        | with_reducible refine seg_gate (fun h => ?_) (fun h => ?_)
        | with_reducible refine seg_need ?_ ?_
        | with_reducible refine wp_assoc ?_ | with_reducible refine wp_skipS ?_ | with_reducible refine wp_retS ?_ | with_reducible refine wp_exitS ?_ | with_reducible refine wp_dropS (wp_eqT (by simp -dsimp -implicitDefEqProofs [hm, hml, hr, hll2, boxAt]; rfl) ?_) | with_reducible refine wp_sealS (by simp -dsimp -implicitDefEqProofs [hm, hml, hr, hll2, boxAt]; rfl) ?_ | with_reducible refine wp_seal (by simp -dsimp -implicitDefEqProofs [hm, hml, hr, hll2, boxAt]; rfl) ?_ | with_reducible refine wp_closeS (by simp -dsimp -implicitDefEqProofs [hm, hml, hr, hll2, boxAt]; rfl) ?_ | with_reducible refine wp_close (by simp -dsimp -implicitDefEqProofs [hm, hml, hr, hll2, boxAt]; rfl) ?_ | with_reducible refine wp_conc_out ?_ | with_reducible refine wp_open_out ?_ | with_reducible refine wp_pack_out ?_ | with_reducible refine wp_blockS ?_ | with_reducible refine wp_skip' ?_ | with_reducible refine wp_ret' ?_ | with_reducible refine wp_exit' ?_ | with_reducible refine wp_drop (wp_eqT (by simp -dsimp -implicitDefEqProofs [hm, hml, hr, hll2, boxAt]; rfl) ?_) | with_reducible refine wp_block' ?_
        | with_reducible refine wp_condVS (by simp -dsimp -implicitDefEqProofs [hm, hml, hr, hll2, boxAt]; rfl) ?_
        | with_reducible refine wp_condV (by simp -dsimp -implicitDefEqProofs [hm, hml, hr, hll2, boxAt]; rfl) ?_
        | with_reducible refine cond_t ?_ | with_reducible refine cond_f ?_ | with_reducible refine cond_v (fun h => ?_) (fun h => ?_)
        | with_reducible refine post_then ?_ | with_reducible refine post_thenE ?_ | with_reducible refine post_thenP ?_ | with_reducible refine post_blkP ?_ | with_reducible refine post_thenR ?_ | with_reducible refine post_blkN ?_ | with_reducible refine post_blkE ?_ | with_reducible refine post_blkF rfl ?_ | with_reducible refine post_blkR ?_
        | with_reducible refine seg_eval (by simp -dsimp -implicitDefEqProofs [hm, hml, hr, hll2, boxAt]; rfl) ?_
    all_goals first
      | omega
      | exact hok
      | exact post_fin rfl rfl ⟨[], [], rfl, rfl, rfl, rfl⟩
      | trace_state
  · have hf : forC v m l a d = forS l a d := by simp [forC, hr]
    rw [hf]
    repeat' first
        | with_reducible refine wp_regionS (seg_eval (by simp -dsimp -implicitDefEqProofs [hm, hml, hr, hll2, boxAt]; rfl) ?_)
        | with_reducible refine wp_region (seg_eval (by simp -dsimp -implicitDefEqProofs [hm, hml, hr, hll2, boxAt]; rfl) ?_)
        | with_reducible refine wp_drawsS (seg_eval (by simp -dsimp -implicitDefEqProofs [hm, hml, hr, hll2, boxAt]; rfl) ?_)
        | with_reducible refine wp_draws (seg_eval (by simp -dsimp -implicitDefEqProofs [hm, hml, hr, hll2, boxAt]; rfl) ?_)
        | with_reducible refine seg_fin ?_
        | with_reducible refine seg_pan ?_
        | with_reducible refine seg_both ?_ ?_
        | with_reducible refine seg_case (fun x h => ?_) (fun h => ?_)
        | with_reducible refine seg_gate (fun h => ?_) (fun h => ?_)
        | with_reducible refine seg_need ?_ ?_
        | with_reducible refine wp_assoc ?_ | with_reducible refine wp_skipS ?_ | with_reducible refine wp_retS ?_ | with_reducible refine wp_exitS ?_ | with_reducible refine wp_dropS (wp_eqT (by simp -dsimp -implicitDefEqProofs [hm, hml, hr, hll2, boxAt]; rfl) ?_) | with_reducible refine wp_sealS (by simp -dsimp -implicitDefEqProofs [hm, hml, hr, hll2, boxAt]; rfl) ?_ | with_reducible refine wp_seal (by simp -dsimp -implicitDefEqProofs [hm, hml, hr, hll2, boxAt]; rfl) ?_ | with_reducible refine wp_closeS (by simp -dsimp -implicitDefEqProofs [hm, hml, hr, hll2, boxAt]; rfl) ?_ | with_reducible refine wp_close (by simp -dsimp -implicitDefEqProofs [hm, hml, hr, hll2, boxAt]; rfl) ?_ | with_reducible refine wp_conc_out ?_ | with_reducible refine wp_open_out ?_ | with_reducible refine wp_pack_out ?_ | with_reducible refine wp_blockS ?_ | with_reducible refine wp_skip' ?_ | with_reducible refine wp_ret' ?_ | with_reducible refine wp_exit' ?_ | with_reducible refine wp_drop (wp_eqT (by simp -dsimp -implicitDefEqProofs [hm, hml, hr, hll2, boxAt]; rfl) ?_) | with_reducible refine wp_block' ?_
        | with_reducible refine wp_condVS (by simp -dsimp -implicitDefEqProofs [hm, hml, hr, hll2, boxAt]; rfl) ?_
        | with_reducible refine wp_condV (by simp -dsimp -implicitDefEqProofs [hm, hml, hr, hll2, boxAt]; rfl) ?_
        | with_reducible refine cond_t ?_ | with_reducible refine cond_f ?_ | with_reducible refine cond_v (fun h => ?_) (fun h => ?_)
        | with_reducible refine post_then ?_ | with_reducible refine post_thenE ?_ | with_reducible refine post_thenP ?_ | with_reducible refine post_blkP ?_ | with_reducible refine post_thenR ?_ | with_reducible refine post_blkN ?_ | with_reducible refine post_blkE ?_ | with_reducible refine post_blkF rfl ?_ | with_reducible refine post_blkR ?_
        | with_reducible refine seg_eval (by simp -dsimp -implicitDefEqProofs [hm, hml, hr, hll2, boxAt]; rfl) ?_
    all_goals first
      | exact hok
      | skip
    refine wp_loop' (fun j ts mm => ∃ i : Nat, i + j = l.length ∧ ts = [(3, .fptr (.agg [.v (.bool a), .v (.int .u8 d)]) 0), (5, .v (.int .u16 (forS (l.take i) a d : Nat))), (12, .fsl 3 (l.map avCt)), (13, .v (.int .i64 l.length)), (14, .v (.int .i64 i))] ∧ mm = []) l.length ?_ ?_
    · exact ⟨[], [], by simp, by simp, 0, by omega, by simp [forS], by simp⟩
    · rintro j ts mm ⟨i, hi, rfl, rfl⟩
      by_cases hlt : i < l.length
      · obtain ⟨x, hx⟩ : ∃ x, l[i]? = some x := ⟨_, List.getElem?_eq_getElem (by omega)⟩
        have hxo := hok x (List.mem_of_getElem? hx)
        have hd : decide ((i : Int) < (l.length : Int)) = true := by rw [decide_eq_true_eq]; omega
        have hd2 : decide (i < l.length) = true := by simp [hlt]
        have h64 : IntKind.wrap .i64 ((i : Int) + 1) = ((i + 1 : Nat) : Int) := by rw [IntWalk.i64_in _ (by omega)]; rfl
        have hsl := forS_lt (l.take i) a d
        have hst : forS (l.take (i + 1)) a d = if x.add = a ∧ x.id = d then withS (forS (l.take i) a d) x.who.toNat else forS (l.take i) a d := by rw [take_more hx, forS_snoc]
        obtain ⟨w, b, k⟩ := x
        obtain ⟨hw0, hw1, hd0, hd1⟩ := hxo
        simp only at hw0 hw1 hd0 hd1 hst
        cases he : (b == a && k == d)
        · have hne : ¬ (b = a ∧ k = d) := by simpa using he
          rw [if_neg hne] at hst
          repeat' first
              | with_reducible refine wp_regionS (seg_eval (by simp -dsimp -implicitDefEqProofs [avCt, cCt, hd, hd2, h64, hx, hw0, hw1, hd0, hd1, hsl, he, eqCells_bi, spWith]; rfl) ?_)
              | with_reducible refine wp_region (seg_eval (by simp -dsimp -implicitDefEqProofs [avCt, cCt, hd, hd2, h64, hx, hw0, hw1, hd0, hd1, hsl, he, eqCells_bi, spWith]; rfl) ?_)
              | with_reducible refine wp_drawsS (seg_eval (by simp -dsimp -implicitDefEqProofs [avCt, cCt, hd, hd2, h64, hx, hw0, hw1, hd0, hd1, hsl, he, eqCells_bi, spWith]; rfl) ?_)
              | with_reducible refine wp_draws (seg_eval (by simp -dsimp -implicitDefEqProofs [avCt, cCt, hd, hd2, h64, hx, hw0, hw1, hd0, hd1, hsl, he, eqCells_bi, spWith]; rfl) ?_)
              | with_reducible refine seg_fin ?_
              | with_reducible refine seg_pan ?_
              | with_reducible refine seg_both ?_ ?_
              | with_reducible refine seg_case (fun x h => ?_) (fun h => ?_)
              | with_reducible refine seg_gate (fun h => ?_) (fun h => ?_)
              | with_reducible refine seg_need ?_ ?_
              | with_reducible refine wp_assoc ?_ | with_reducible refine wp_skipS ?_ | with_reducible refine wp_retS ?_ | with_reducible refine wp_exitS ?_ | with_reducible refine wp_dropS (wp_eqT (by simp -dsimp -implicitDefEqProofs [avCt, cCt, hd, hd2, h64, hx, hw0, hw1, hd0, hd1, hsl, he, eqCells_bi, spWith]; rfl) ?_) | with_reducible refine wp_sealS (by simp -dsimp -implicitDefEqProofs [avCt, cCt, hd, hd2, h64, hx, hw0, hw1, hd0, hd1, hsl, he, eqCells_bi, spWith]; rfl) ?_ | with_reducible refine wp_seal (by simp -dsimp -implicitDefEqProofs [avCt, cCt, hd, hd2, h64, hx, hw0, hw1, hd0, hd1, hsl, he, eqCells_bi, spWith]; rfl) ?_ | with_reducible refine wp_closeS (by simp -dsimp -implicitDefEqProofs [avCt, cCt, hd, hd2, h64, hx, hw0, hw1, hd0, hd1, hsl, he, eqCells_bi, spWith]; rfl) ?_ | with_reducible refine wp_close (by simp -dsimp -implicitDefEqProofs [avCt, cCt, hd, hd2, h64, hx, hw0, hw1, hd0, hd1, hsl, he, eqCells_bi, spWith]; rfl) ?_ | with_reducible refine wp_conc_out ?_ | with_reducible refine wp_open_out ?_ | with_reducible refine wp_pack_out ?_ | with_reducible refine wp_blockS ?_ | with_reducible refine wp_skip' ?_ | with_reducible refine wp_ret' ?_ | with_reducible refine wp_exit' ?_ | with_reducible refine wp_drop (wp_eqT (by simp -dsimp -implicitDefEqProofs [avCt, cCt, hd, hd2, h64, hx, hw0, hw1, hd0, hd1, hsl, he, eqCells_bi, spWith]; rfl) ?_) | with_reducible refine wp_block' ?_
              | with_reducible refine wp_condVS (by simp -dsimp -implicitDefEqProofs [avCt, cCt, hd, hd2, h64, hx, hw0, hw1, hd0, hd1, hsl, he, eqCells_bi, spWith]; rfl) ?_
              | with_reducible refine wp_condV (by simp -dsimp -implicitDefEqProofs [avCt, cCt, hd, hd2, h64, hx, hw0, hw1, hd0, hd1, hsl, he, eqCells_bi, spWith]; rfl) ?_
              | with_reducible refine cond_t ?_ | with_reducible refine cond_f ?_ | with_reducible refine cond_v (fun h => ?_) (fun h => ?_)
              | with_reducible refine post_then ?_ | with_reducible refine post_thenE ?_ | with_reducible refine post_thenP ?_ | with_reducible refine post_blkP ?_ | with_reducible refine post_thenR ?_ | with_reducible refine post_blkN ?_ | with_reducible refine post_blkE ?_ | with_reducible refine post_blkF rfl ?_ | with_reducible refine post_blkR ?_
              | with_reducible refine seg_eval (by simp -dsimp -implicitDefEqProofs [avCt, cCt, hd, hd2, h64, hx, hw0, hw1, hd0, hd1, hsl, he, eqCells_bi, spWith]; rfl) ?_
          all_goals first
            | omega
            | exact ⟨j - 1, by omega, [], [], by simp, by simp, i + 1, by omega, by simp [hst, avCt, cCt], by simp⟩
            | trace_state
        · have hne : b = a ∧ k = d := by simpa using he
          rw [if_pos hne] at hst
          repeat' first
              | with_reducible refine wp_regionS (seg_eval (by simp -dsimp -implicitDefEqProofs [avCt, cCt, hd, hd2, h64, hx, hw0, hw1, hd0, hd1, hsl, he, eqCells_bi, spWith]; rfl) ?_)
              | with_reducible refine wp_region (seg_eval (by simp -dsimp -implicitDefEqProofs [avCt, cCt, hd, hd2, h64, hx, hw0, hw1, hd0, hd1, hsl, he, eqCells_bi, spWith]; rfl) ?_)
              | with_reducible refine wp_drawsS (seg_eval (by simp -dsimp -implicitDefEqProofs [avCt, cCt, hd, hd2, h64, hx, hw0, hw1, hd0, hd1, hsl, he, eqCells_bi, spWith]; rfl) ?_)
              | with_reducible refine wp_draws (seg_eval (by simp -dsimp -implicitDefEqProofs [avCt, cCt, hd, hd2, h64, hx, hw0, hw1, hd0, hd1, hsl, he, eqCells_bi, spWith]; rfl) ?_)
              | with_reducible refine seg_fin ?_
              | with_reducible refine seg_pan ?_
              | with_reducible refine seg_both ?_ ?_
              | with_reducible refine seg_case (fun x h => ?_) (fun h => ?_)
              | with_reducible refine seg_gate (fun h => ?_) (fun h => ?_)
              | with_reducible refine seg_need ?_ ?_
              | with_reducible refine wp_assoc ?_ | with_reducible refine wp_skipS ?_ | with_reducible refine wp_retS ?_ | with_reducible refine wp_exitS ?_ | with_reducible refine wp_dropS (wp_eqT (by simp -dsimp -implicitDefEqProofs [avCt, cCt, hd, hd2, h64, hx, hw0, hw1, hd0, hd1, hsl, he, eqCells_bi, spWith]; rfl) ?_) | with_reducible refine wp_sealS (by simp -dsimp -implicitDefEqProofs [avCt, cCt, hd, hd2, h64, hx, hw0, hw1, hd0, hd1, hsl, he, eqCells_bi, spWith]; rfl) ?_ | with_reducible refine wp_seal (by simp -dsimp -implicitDefEqProofs [avCt, cCt, hd, hd2, h64, hx, hw0, hw1, hd0, hd1, hsl, he, eqCells_bi, spWith]; rfl) ?_ | with_reducible refine wp_closeS (by simp -dsimp -implicitDefEqProofs [avCt, cCt, hd, hd2, h64, hx, hw0, hw1, hd0, hd1, hsl, he, eqCells_bi, spWith]; rfl) ?_ | with_reducible refine wp_close (by simp -dsimp -implicitDefEqProofs [avCt, cCt, hd, hd2, h64, hx, hw0, hw1, hd0, hd1, hsl, he, eqCells_bi, spWith]; rfl) ?_ | with_reducible refine wp_conc_out ?_ | with_reducible refine wp_open_out ?_ | with_reducible refine wp_pack_out ?_ | with_reducible refine wp_blockS ?_ | with_reducible refine wp_skip' ?_ | with_reducible refine wp_ret' ?_ | with_reducible refine wp_exit' ?_ | with_reducible refine wp_drop (wp_eqT (by simp -dsimp -implicitDefEqProofs [avCt, cCt, hd, hd2, h64, hx, hw0, hw1, hd0, hd1, hsl, he, eqCells_bi, spWith]; rfl) ?_) | with_reducible refine wp_block' ?_
              | with_reducible refine wp_condVS (by simp -dsimp -implicitDefEqProofs [avCt, cCt, hd, hd2, h64, hx, hw0, hw1, hd0, hd1, hsl, he, eqCells_bi, spWith]; rfl) ?_
              | with_reducible refine wp_condV (by simp -dsimp -implicitDefEqProofs [avCt, cCt, hd, hd2, h64, hx, hw0, hw1, hd0, hd1, hsl, he, eqCells_bi, spWith]; rfl) ?_
              | with_reducible refine cond_t ?_ | with_reducible refine cond_f ?_ | with_reducible refine cond_v (fun h => ?_) (fun h => ?_)
              | with_reducible refine post_then ?_ | with_reducible refine post_thenE ?_ | with_reducible refine post_thenP ?_ | with_reducible refine post_blkP ?_ | with_reducible refine post_thenR ?_ | with_reducible refine post_blkN ?_ | with_reducible refine post_blkE ?_ | with_reducible refine post_blkF rfl ?_ | with_reducible refine post_blkR ?_
              | with_reducible refine seg_eval (by simp -dsimp -implicitDefEqProofs [avCt, cCt, hd, hd2, h64, hx, hw0, hw1, hd0, hd1, hsl, he, eqCells_bi, spWith]; rfl) ?_
          all_goals first
            | omega
            | exact ⟨j - 1, by omega, [], [], by simp, by simp, i + 1, by omega, by simp [hst, avCt, cCt], by simp⟩
            | trace_state
      · have hd : decide ((i : Int) < (l.length : Int)) = false := by rw [decide_eq_false_iff_not]; omega
        have hd2 : decide (i < l.length) = false := by simp [hlt]
        rw [List.take_of_length_le (by omega)]
        repeat' first
            | with_reducible refine wp_regionS (seg_eval (by simp -dsimp -implicitDefEqProofs [hd, hd2]; rfl) ?_)
            | with_reducible refine wp_region (seg_eval (by simp -dsimp -implicitDefEqProofs [hd, hd2]; rfl) ?_)
            | with_reducible refine wp_drawsS (seg_eval (by simp -dsimp -implicitDefEqProofs [hd, hd2]; rfl) ?_)
            | with_reducible refine wp_draws (seg_eval (by simp -dsimp -implicitDefEqProofs [hd, hd2]; rfl) ?_)
            | with_reducible refine seg_fin ?_
            | with_reducible refine seg_pan ?_
            | with_reducible refine seg_both ?_ ?_
            | with_reducible refine seg_case (fun x h => ?_) (fun h => ?_)
            | with_reducible refine seg_gate (fun h => ?_) (fun h => ?_)
            | with_reducible refine seg_need ?_ ?_
            | with_reducible refine wp_assoc ?_ | with_reducible refine wp_skipS ?_ | with_reducible refine wp_retS ?_ | with_reducible refine wp_exitS ?_ | with_reducible refine wp_dropS (wp_eqT (by simp -dsimp -implicitDefEqProofs [hd, hd2]; rfl) ?_) | with_reducible refine wp_sealS (by simp -dsimp -implicitDefEqProofs [hd, hd2]; rfl) ?_ | with_reducible refine wp_seal (by simp -dsimp -implicitDefEqProofs [hd, hd2]; rfl) ?_ | with_reducible refine wp_closeS (by simp -dsimp -implicitDefEqProofs [hd, hd2]; rfl) ?_ | with_reducible refine wp_close (by simp -dsimp -implicitDefEqProofs [hd, hd2]; rfl) ?_ | with_reducible refine wp_conc_out ?_ | with_reducible refine wp_open_out ?_ | with_reducible refine wp_pack_out ?_ | with_reducible refine wp_blockS ?_ | with_reducible refine wp_skip' ?_ | with_reducible refine wp_ret' ?_ | with_reducible refine wp_exit' ?_ | with_reducible refine wp_drop (wp_eqT (by simp -dsimp -implicitDefEqProofs [hd, hd2]; rfl) ?_) | with_reducible refine wp_block' ?_
            | with_reducible refine wp_condVS (by simp -dsimp -implicitDefEqProofs [hd, hd2]; rfl) ?_
            | with_reducible refine wp_condV (by simp -dsimp -implicitDefEqProofs [hd, hd2]; rfl) ?_
            | with_reducible refine cond_t ?_ | with_reducible refine cond_f ?_ | with_reducible refine cond_v (fun h => ?_) (fun h => ?_)
            | with_reducible refine post_then ?_ | with_reducible refine post_thenE ?_ | with_reducible refine post_thenP ?_ | with_reducible refine post_blkP ?_ | with_reducible refine post_thenR ?_ | with_reducible refine post_blkN ?_ | with_reducible refine post_blkE ?_ | with_reducible refine post_blkF rfl ?_ | with_reducible refine post_blkR ?_
            | with_reducible refine seg_eval (by simp -dsimp -implicitDefEqProofs [hd, hd2]; rfl) ?_
        all_goals first
          | omega
          | exact post_fin rfl rfl ⟨[], [], rfl, rfl, rfl, rfl⟩
          | trace_state

set_option maxHeartbeats 8000000 in
theorem forCR_ok : CallOk Try.prog 34 spForC := by
  refine ok_34 (Env.put_ok [] (Env.put_ok [] (Env.none_ok _) withR_ok) boxRightR_ok) spForC (wb_spc ?_)
  rintro ⟨v, m, l, a, d⟩ ⟨hm, hll, hok⟩
  simp only [avBox] at hm hll hok ⊢
  have hml : (m : Int) < 65536 := by omega
  have hll2 : l.length ≤ 100000000 := by omega
  unfold ac_34
  cases hr : boxB v m l
  · have hf : forC v m l a d = 0 := by simp [forC, hr]
    rw [hf]
    repeat' first
        | with_reducible refine wp_regionS (seg_eval (by simp -dsimp -implicitDefEqProofs [hm, hml, hr, hll2, boxAt]; rfl) ?_)
        | with_reducible refine wp_region (seg_eval (by simp -dsimp -implicitDefEqProofs [hm, hml, hr, hll2, boxAt]; rfl) ?_)
        | with_reducible refine wp_drawsS (seg_eval (by simp -dsimp -implicitDefEqProofs [hm, hml, hr, hll2, boxAt]; rfl) ?_)
        | with_reducible refine wp_draws (seg_eval (by simp -dsimp -implicitDefEqProofs [hm, hml, hr, hll2, boxAt]; rfl) ?_)
        | with_reducible refine seg_fin ?_
        | with_reducible refine seg_pan ?_
        | with_reducible refine seg_both ?_ ?_
        | with_reducible refine seg_case (fun x h => ?_) (fun h => ?_)
        | with_reducible refine seg_gate (fun h => ?_) (fun h => ?_)
        | with_reducible refine seg_need ?_ ?_
        | with_reducible refine wp_assoc ?_ | with_reducible refine wp_skipS ?_ | with_reducible refine wp_retS ?_ | with_reducible refine wp_exitS ?_ | with_reducible refine wp_dropS (wp_eqT (by simp -dsimp -implicitDefEqProofs [hm, hml, hr, hll2, boxAt]; rfl) ?_) | with_reducible refine wp_sealS (by simp -dsimp -implicitDefEqProofs [hm, hml, hr, hll2, boxAt]; rfl) ?_ | with_reducible refine wp_seal (by simp -dsimp -implicitDefEqProofs [hm, hml, hr, hll2, boxAt]; rfl) ?_ | with_reducible refine wp_closeS (by simp -dsimp -implicitDefEqProofs [hm, hml, hr, hll2, boxAt]; rfl) ?_ | with_reducible refine wp_close (by simp -dsimp -implicitDefEqProofs [hm, hml, hr, hll2, boxAt]; rfl) ?_ | with_reducible refine wp_conc_out ?_ | with_reducible refine wp_open_out ?_ | with_reducible refine wp_pack_out ?_ | with_reducible refine wp_blockS ?_ | with_reducible refine wp_skip' ?_ | with_reducible refine wp_ret' ?_ | with_reducible refine wp_exit' ?_ | with_reducible refine wp_drop (wp_eqT (by simp -dsimp -implicitDefEqProofs [hm, hml, hr, hll2, boxAt]; rfl) ?_) | with_reducible refine wp_block' ?_
        | with_reducible refine wp_condVS (by simp -dsimp -implicitDefEqProofs [hm, hml, hr, hll2, boxAt]; rfl) ?_
        | with_reducible refine wp_condV (by simp -dsimp -implicitDefEqProofs [hm, hml, hr, hll2, boxAt]; rfl) ?_
        | with_reducible refine cond_t ?_ | with_reducible refine cond_f ?_ | with_reducible refine cond_v (fun h => ?_) (fun h => ?_)
        | with_reducible refine post_then ?_ | with_reducible refine post_thenE ?_ | with_reducible refine post_thenP ?_ | with_reducible refine post_blkP ?_ | with_reducible refine post_thenR ?_ | with_reducible refine post_blkN ?_ | with_reducible refine post_blkE ?_ | with_reducible refine post_blkF rfl ?_ | with_reducible refine post_blkR ?_
        | with_reducible refine seg_eval (by simp -dsimp -implicitDefEqProofs [hm, hml, hr, hll2, boxAt]; rfl) ?_
    all_goals first
      | omega
      | exact hok
      | exact post_fin rfl rfl ⟨[], [], rfl, rfl, rfl, rfl⟩
      | trace_state
  · have hf : forC v m l a d = forS l a d := by simp [forC, hr]
    rw [hf]
    repeat' first
        | with_reducible refine wp_regionS (seg_eval (by simp -dsimp -implicitDefEqProofs [hm, hml, hr, hll2, boxAt]; rfl) ?_)
        | with_reducible refine wp_region (seg_eval (by simp -dsimp -implicitDefEqProofs [hm, hml, hr, hll2, boxAt]; rfl) ?_)
        | with_reducible refine wp_drawsS (seg_eval (by simp -dsimp -implicitDefEqProofs [hm, hml, hr, hll2, boxAt]; rfl) ?_)
        | with_reducible refine wp_draws (seg_eval (by simp -dsimp -implicitDefEqProofs [hm, hml, hr, hll2, boxAt]; rfl) ?_)
        | with_reducible refine seg_fin ?_
        | with_reducible refine seg_pan ?_
        | with_reducible refine seg_both ?_ ?_
        | with_reducible refine seg_case (fun x h => ?_) (fun h => ?_)
        | with_reducible refine seg_gate (fun h => ?_) (fun h => ?_)
        | with_reducible refine seg_need ?_ ?_
        | with_reducible refine wp_assoc ?_ | with_reducible refine wp_skipS ?_ | with_reducible refine wp_retS ?_ | with_reducible refine wp_exitS ?_ | with_reducible refine wp_dropS (wp_eqT (by simp -dsimp -implicitDefEqProofs [hm, hml, hr, hll2, boxAt]; rfl) ?_) | with_reducible refine wp_sealS (by simp -dsimp -implicitDefEqProofs [hm, hml, hr, hll2, boxAt]; rfl) ?_ | with_reducible refine wp_seal (by simp -dsimp -implicitDefEqProofs [hm, hml, hr, hll2, boxAt]; rfl) ?_ | with_reducible refine wp_closeS (by simp -dsimp -implicitDefEqProofs [hm, hml, hr, hll2, boxAt]; rfl) ?_ | with_reducible refine wp_close (by simp -dsimp -implicitDefEqProofs [hm, hml, hr, hll2, boxAt]; rfl) ?_ | with_reducible refine wp_conc_out ?_ | with_reducible refine wp_open_out ?_ | with_reducible refine wp_pack_out ?_ | with_reducible refine wp_blockS ?_ | with_reducible refine wp_skip' ?_ | with_reducible refine wp_ret' ?_ | with_reducible refine wp_exit' ?_ | with_reducible refine wp_drop (wp_eqT (by simp -dsimp -implicitDefEqProofs [hm, hml, hr, hll2, boxAt]; rfl) ?_) | with_reducible refine wp_block' ?_
        | with_reducible refine wp_condVS (by simp -dsimp -implicitDefEqProofs [hm, hml, hr, hll2, boxAt]; rfl) ?_
        | with_reducible refine wp_condV (by simp -dsimp -implicitDefEqProofs [hm, hml, hr, hll2, boxAt]; rfl) ?_
        | with_reducible refine cond_t ?_ | with_reducible refine cond_f ?_ | with_reducible refine cond_v (fun h => ?_) (fun h => ?_)
        | with_reducible refine post_then ?_ | with_reducible refine post_thenE ?_ | with_reducible refine post_thenP ?_ | with_reducible refine post_blkP ?_ | with_reducible refine post_thenR ?_ | with_reducible refine post_blkN ?_ | with_reducible refine post_blkE ?_ | with_reducible refine post_blkF rfl ?_ | with_reducible refine post_blkR ?_
        | with_reducible refine seg_eval (by simp -dsimp -implicitDefEqProofs [hm, hml, hr, hll2, boxAt]; rfl) ?_
    all_goals first
      | exact hok
      | skip
    refine wp_loop' (fun j ts mm => ∃ i : Nat, i + j = l.length ∧ ts = [(2, .fptr (.agg [.v (.int .i64 v), .v (.int .u16 (m : Nat)), .fsl 3 (l.map avCt)]) 0), (3, .fptr (.agg [.v (.bool a), .v (.int .u8 d)]) 0), (5, .v (.int .u16 (forS (l.take i) a d : Nat))), (6, .v (.int .i64 i))] ∧ mm = []) l.length ?_ ?_
    · exact ⟨[], [], by simp, by simp, 0, by omega, by simp [forS], by simp⟩
    · rintro j ts mm ⟨i, hi, rfl, rfl⟩
      by_cases hlt : i < l.length
      · obtain ⟨x, hx⟩ : ∃ x, l[i]? = some x := ⟨_, List.getElem?_eq_getElem (by omega)⟩
        have hxo := hok x (List.mem_of_getElem? hx)
        have hd : decide ((i : Int) < (l.length : Int)) = true := by rw [decide_eq_true_eq]; omega
        have hd2 : decide (i < l.length) = true := by simp [hlt]
        have h64 : IntKind.wrap .i64 ((i : Int) + 1) = ((i + 1 : Nat) : Int) := by rw [IntWalk.i64_in _ (by omega)]; rfl
        have hsl := forS_lt (l.take i) a d
        have hst : forS (l.take (i + 1)) a d = if x.add = a ∧ x.id = d then withS (forS (l.take i) a d) x.who.toNat else forS (l.take i) a d := by rw [take_more hx, forS_snoc]
        obtain ⟨w, b, k⟩ := x
        obtain ⟨hw0, hw1, hd0, hd1⟩ := hxo
        simp only at hw0 hw1 hd0 hd1 hst
        cases he : (b == a && k == d)
        · have hne : ¬ (b = a ∧ k = d) := by simpa using he
          rw [if_neg hne] at hst
          repeat' first
              | with_reducible refine wp_regionS (seg_eval (by simp -dsimp -implicitDefEqProofs [avCt, cCt, hd, hd2, h64, hx, hw0, hw1, hd0, hd1, hsl, he, eqCells_bi, spWith]; rfl) ?_)
              | with_reducible refine wp_region (seg_eval (by simp -dsimp -implicitDefEqProofs [avCt, cCt, hd, hd2, h64, hx, hw0, hw1, hd0, hd1, hsl, he, eqCells_bi, spWith]; rfl) ?_)
              | with_reducible refine wp_drawsS (seg_eval (by simp -dsimp -implicitDefEqProofs [avCt, cCt, hd, hd2, h64, hx, hw0, hw1, hd0, hd1, hsl, he, eqCells_bi, spWith]; rfl) ?_)
              | with_reducible refine wp_draws (seg_eval (by simp -dsimp -implicitDefEqProofs [avCt, cCt, hd, hd2, h64, hx, hw0, hw1, hd0, hd1, hsl, he, eqCells_bi, spWith]; rfl) ?_)
              | with_reducible refine seg_fin ?_
              | with_reducible refine seg_pan ?_
              | with_reducible refine seg_both ?_ ?_
              | with_reducible refine seg_case (fun x h => ?_) (fun h => ?_)
              | with_reducible refine seg_gate (fun h => ?_) (fun h => ?_)
              | with_reducible refine seg_need ?_ ?_
              | with_reducible refine wp_assoc ?_ | with_reducible refine wp_skipS ?_ | with_reducible refine wp_retS ?_ | with_reducible refine wp_exitS ?_ | with_reducible refine wp_dropS (wp_eqT (by simp -dsimp -implicitDefEqProofs [avCt, cCt, hd, hd2, h64, hx, hw0, hw1, hd0, hd1, hsl, he, eqCells_bi, spWith]; rfl) ?_) | with_reducible refine wp_sealS (by simp -dsimp -implicitDefEqProofs [avCt, cCt, hd, hd2, h64, hx, hw0, hw1, hd0, hd1, hsl, he, eqCells_bi, spWith]; rfl) ?_ | with_reducible refine wp_seal (by simp -dsimp -implicitDefEqProofs [avCt, cCt, hd, hd2, h64, hx, hw0, hw1, hd0, hd1, hsl, he, eqCells_bi, spWith]; rfl) ?_ | with_reducible refine wp_closeS (by simp -dsimp -implicitDefEqProofs [avCt, cCt, hd, hd2, h64, hx, hw0, hw1, hd0, hd1, hsl, he, eqCells_bi, spWith]; rfl) ?_ | with_reducible refine wp_close (by simp -dsimp -implicitDefEqProofs [avCt, cCt, hd, hd2, h64, hx, hw0, hw1, hd0, hd1, hsl, he, eqCells_bi, spWith]; rfl) ?_ | with_reducible refine wp_conc_out ?_ | with_reducible refine wp_open_out ?_ | with_reducible refine wp_pack_out ?_ | with_reducible refine wp_blockS ?_ | with_reducible refine wp_skip' ?_ | with_reducible refine wp_ret' ?_ | with_reducible refine wp_exit' ?_ | with_reducible refine wp_drop (wp_eqT (by simp -dsimp -implicitDefEqProofs [avCt, cCt, hd, hd2, h64, hx, hw0, hw1, hd0, hd1, hsl, he, eqCells_bi, spWith]; rfl) ?_) | with_reducible refine wp_block' ?_
              | with_reducible refine wp_condVS (by simp -dsimp -implicitDefEqProofs [avCt, cCt, hd, hd2, h64, hx, hw0, hw1, hd0, hd1, hsl, he, eqCells_bi, spWith]; rfl) ?_
              | with_reducible refine wp_condV (by simp -dsimp -implicitDefEqProofs [avCt, cCt, hd, hd2, h64, hx, hw0, hw1, hd0, hd1, hsl, he, eqCells_bi, spWith]; rfl) ?_
              | with_reducible refine cond_t ?_ | with_reducible refine cond_f ?_ | with_reducible refine cond_v (fun h => ?_) (fun h => ?_)
              | with_reducible refine post_then ?_ | with_reducible refine post_thenE ?_ | with_reducible refine post_thenP ?_ | with_reducible refine post_blkP ?_ | with_reducible refine post_thenR ?_ | with_reducible refine post_blkN ?_ | with_reducible refine post_blkE ?_ | with_reducible refine post_blkF rfl ?_ | with_reducible refine post_blkR ?_
              | with_reducible refine seg_eval (by simp -dsimp -implicitDefEqProofs [avCt, cCt, hd, hd2, h64, hx, hw0, hw1, hd0, hd1, hsl, he, eqCells_bi, spWith]; rfl) ?_
          all_goals first
            | omega
            | exact ⟨j - 1, by omega, [], [], by simp, by simp, i + 1, by omega, by simp [hst, avCt, cCt], by simp⟩
            | trace_state
        · have hne : b = a ∧ k = d := by simpa using he
          rw [if_pos hne] at hst
          repeat' first
              | with_reducible refine wp_regionS (seg_eval (by simp -dsimp -implicitDefEqProofs [avCt, cCt, hd, hd2, h64, hx, hw0, hw1, hd0, hd1, hsl, he, eqCells_bi, spWith]; rfl) ?_)
              | with_reducible refine wp_region (seg_eval (by simp -dsimp -implicitDefEqProofs [avCt, cCt, hd, hd2, h64, hx, hw0, hw1, hd0, hd1, hsl, he, eqCells_bi, spWith]; rfl) ?_)
              | with_reducible refine wp_drawsS (seg_eval (by simp -dsimp -implicitDefEqProofs [avCt, cCt, hd, hd2, h64, hx, hw0, hw1, hd0, hd1, hsl, he, eqCells_bi, spWith]; rfl) ?_)
              | with_reducible refine wp_draws (seg_eval (by simp -dsimp -implicitDefEqProofs [avCt, cCt, hd, hd2, h64, hx, hw0, hw1, hd0, hd1, hsl, he, eqCells_bi, spWith]; rfl) ?_)
              | with_reducible refine seg_fin ?_
              | with_reducible refine seg_pan ?_
              | with_reducible refine seg_both ?_ ?_
              | with_reducible refine seg_case (fun x h => ?_) (fun h => ?_)
              | with_reducible refine seg_gate (fun h => ?_) (fun h => ?_)
              | with_reducible refine seg_need ?_ ?_
              | with_reducible refine wp_assoc ?_ | with_reducible refine wp_skipS ?_ | with_reducible refine wp_retS ?_ | with_reducible refine wp_exitS ?_ | with_reducible refine wp_dropS (wp_eqT (by simp -dsimp -implicitDefEqProofs [avCt, cCt, hd, hd2, h64, hx, hw0, hw1, hd0, hd1, hsl, he, eqCells_bi, spWith]; rfl) ?_) | with_reducible refine wp_sealS (by simp -dsimp -implicitDefEqProofs [avCt, cCt, hd, hd2, h64, hx, hw0, hw1, hd0, hd1, hsl, he, eqCells_bi, spWith]; rfl) ?_ | with_reducible refine wp_seal (by simp -dsimp -implicitDefEqProofs [avCt, cCt, hd, hd2, h64, hx, hw0, hw1, hd0, hd1, hsl, he, eqCells_bi, spWith]; rfl) ?_ | with_reducible refine wp_closeS (by simp -dsimp -implicitDefEqProofs [avCt, cCt, hd, hd2, h64, hx, hw0, hw1, hd0, hd1, hsl, he, eqCells_bi, spWith]; rfl) ?_ | with_reducible refine wp_close (by simp -dsimp -implicitDefEqProofs [avCt, cCt, hd, hd2, h64, hx, hw0, hw1, hd0, hd1, hsl, he, eqCells_bi, spWith]; rfl) ?_ | with_reducible refine wp_conc_out ?_ | with_reducible refine wp_open_out ?_ | with_reducible refine wp_pack_out ?_ | with_reducible refine wp_blockS ?_ | with_reducible refine wp_skip' ?_ | with_reducible refine wp_ret' ?_ | with_reducible refine wp_exit' ?_ | with_reducible refine wp_drop (wp_eqT (by simp -dsimp -implicitDefEqProofs [avCt, cCt, hd, hd2, h64, hx, hw0, hw1, hd0, hd1, hsl, he, eqCells_bi, spWith]; rfl) ?_) | with_reducible refine wp_block' ?_
              | with_reducible refine wp_condVS (by simp -dsimp -implicitDefEqProofs [avCt, cCt, hd, hd2, h64, hx, hw0, hw1, hd0, hd1, hsl, he, eqCells_bi, spWith]; rfl) ?_
              | with_reducible refine wp_condV (by simp -dsimp -implicitDefEqProofs [avCt, cCt, hd, hd2, h64, hx, hw0, hw1, hd0, hd1, hsl, he, eqCells_bi, spWith]; rfl) ?_
              | with_reducible refine cond_t ?_ | with_reducible refine cond_f ?_ | with_reducible refine cond_v (fun h => ?_) (fun h => ?_)
              | with_reducible refine post_then ?_ | with_reducible refine post_thenE ?_ | with_reducible refine post_thenP ?_ | with_reducible refine post_blkP ?_ | with_reducible refine post_thenR ?_ | with_reducible refine post_blkN ?_ | with_reducible refine post_blkE ?_ | with_reducible refine post_blkF rfl ?_ | with_reducible refine post_blkR ?_
              | with_reducible refine seg_eval (by simp -dsimp -implicitDefEqProofs [avCt, cCt, hd, hd2, h64, hx, hw0, hw1, hd0, hd1, hsl, he, eqCells_bi, spWith]; rfl) ?_
          all_goals first
            | omega
            | exact ⟨j - 1, by omega, [], [], by simp, by simp, i + 1, by omega, by simp [hst, avCt, cCt], by simp⟩
            | trace_state
      · have hd : decide ((i : Int) < (l.length : Int)) = false := by rw [decide_eq_false_iff_not]; omega
        have hd2 : decide (i < l.length) = false := by simp [hlt]
        rw [List.take_of_length_le (by omega)]
        repeat' first
            | with_reducible refine wp_regionS (seg_eval (by simp -dsimp -implicitDefEqProofs [hd, hd2]; rfl) ?_)
            | with_reducible refine wp_region (seg_eval (by simp -dsimp -implicitDefEqProofs [hd, hd2]; rfl) ?_)
            | with_reducible refine wp_drawsS (seg_eval (by simp -dsimp -implicitDefEqProofs [hd, hd2]; rfl) ?_)
            | with_reducible refine wp_draws (seg_eval (by simp -dsimp -implicitDefEqProofs [hd, hd2]; rfl) ?_)
            | with_reducible refine seg_fin ?_
            | with_reducible refine seg_pan ?_
            | with_reducible refine seg_both ?_ ?_
            | with_reducible refine seg_case (fun x h => ?_) (fun h => ?_)
            | with_reducible refine seg_gate (fun h => ?_) (fun h => ?_)
            | with_reducible refine seg_need ?_ ?_
            | with_reducible refine wp_assoc ?_ | with_reducible refine wp_skipS ?_ | with_reducible refine wp_retS ?_ | with_reducible refine wp_exitS ?_ | with_reducible refine wp_dropS (wp_eqT (by simp -dsimp -implicitDefEqProofs [hd, hd2]; rfl) ?_) | with_reducible refine wp_sealS (by simp -dsimp -implicitDefEqProofs [hd, hd2]; rfl) ?_ | with_reducible refine wp_seal (by simp -dsimp -implicitDefEqProofs [hd, hd2]; rfl) ?_ | with_reducible refine wp_closeS (by simp -dsimp -implicitDefEqProofs [hd, hd2]; rfl) ?_ | with_reducible refine wp_close (by simp -dsimp -implicitDefEqProofs [hd, hd2]; rfl) ?_ | with_reducible refine wp_conc_out ?_ | with_reducible refine wp_open_out ?_ | with_reducible refine wp_pack_out ?_ | with_reducible refine wp_blockS ?_ | with_reducible refine wp_skip' ?_ | with_reducible refine wp_ret' ?_ | with_reducible refine wp_exit' ?_ | with_reducible refine wp_drop (wp_eqT (by simp -dsimp -implicitDefEqProofs [hd, hd2]; rfl) ?_) | with_reducible refine wp_block' ?_
            | with_reducible refine wp_condVS (by simp -dsimp -implicitDefEqProofs [hd, hd2]; rfl) ?_
            | with_reducible refine wp_condV (by simp -dsimp -implicitDefEqProofs [hd, hd2]; rfl) ?_
            | with_reducible refine cond_t ?_ | with_reducible refine cond_f ?_ | with_reducible refine cond_v (fun h => ?_) (fun h => ?_)
            | with_reducible refine post_then ?_ | with_reducible refine post_thenE ?_ | with_reducible refine post_thenP ?_ | with_reducible refine post_blkP ?_ | with_reducible refine post_thenR ?_ | with_reducible refine post_blkN ?_ | with_reducible refine post_blkE ?_ | with_reducible refine post_blkF rfl ?_ | with_reducible refine post_blkR ?_
            | with_reducible refine seg_eval (by simp -dsimp -implicitDefEqProofs [hd, hd2]; rfl) ?_
        all_goals first
          | omega
          | exact post_fin rfl rfl ⟨[], [], rfl, rfl, rfl, rfl⟩
          | trace_state
end Go.Proofs.Ytbponegjfccgfaa.Am
