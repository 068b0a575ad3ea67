/-
  A MARK PUT INTO A FLUSH: the document's answer.
-/
import Derived.Test.YtbponegjfccgfaaFP
namespace Go.Proofs.Ytbponegjfccgfaa.Am
set_option linter.unusedSimpArgs false
set_option linter.unusedVariables false
open Go Go.Proofs
attribute [local irreducible] wpA
attribute [-simp] splice

/-- What is built behind the first i elements. -/
def upTo (w : Int) (m : Mk) (l : List Mk) (i : Nat) : List Mk :=
  if i ≤ posK keyMk w l then l.take i else l.take (posK keyMk w l) ++ [m] ++ (l.take i).drop (posK keyMk w l)
theorem upTo_zero (w : Int) (m : Mk) (l : List Mk) : upTo w m l 0 = [] := by simp [upTo]
theorem upTo_low {w : Int} {m x : Mk} {l : List Mk} {i : Nat} (h : i < posK keyMk w l) (hx : l[i]? = some x) : upTo w m l (i + 1) = upTo w m l i ++ [x] := by
  unfold upTo
  rw [if_pos (by omega), if_pos (by omega), take_more hx]
theorem upTo_at {w : Int} {m x : Mk} {l : List Mk} {i : Nat} (h : i = posK keyMk w l) (hx : l[i]? = some x) : upTo w m l (i + 1) = upTo w m l i ++ [m] ++ [x] := by
  have hlt := (List.getElem?_eq_some_iff.1 hx).1
  unfold upTo
  rw [if_neg (by omega), if_pos (by omega), take_more hx, ← h, List.drop_append_of_le_length (by simp; omega)]
  simp
theorem upTo_high {w : Int} {m x : Mk} {l : List Mk} {i : Nat} (h : posK keyMk w l < i) (hx : l[i]? = some x) : upTo w m l (i + 1) = upTo w m l i ++ [x] := by
  have hlt := (List.getElem?_eq_some_iff.1 hx).1
  unfold upTo
  rw [if_neg (by omega), if_neg (by omega), take_more hx, List.drop_append_of_le_length (by simp; omega)]
  simp
theorem upTo_all {m : Mk} {l : List Mk} (h : posK keyMk m.who l < l.length) : upTo m.who m l l.length = insK keyMk m l := by
  unfold upTo insK
  rw [if_neg (by omega), List.take_length]; rfl
theorem upTo_end {m : Mk} {l : List Mk} (h : l.length ≤ posK keyMk m.who l) : upTo m.who m l l.length ++ [m] = insK keyMk m l := by
  have := posK_le (key := keyMk) m.who l
  unfold upTo insK
  have e : posK keyMk (keyMk m) l = l.length := by show posK keyMk m.who l = _; omega
  rw [if_pos h, e]; simp
theorem upTo_mem {w : Int} {m y : Mk} {l : List Mk} {i : Nat} (h : y ∈ upTo w m l i) : y = m ∨ y ∈ l := by
  unfold upTo at h
  split at h
  · exact .inr (List.mem_of_mem_take h)
  · simp only [List.mem_append, List.mem_singleton] at h
    rcases h with (h | h) | h
    · exact .inr (List.mem_of_mem_take h)
    · exact .inl h
    · exact .inr (List.mem_of_mem_take (List.mem_of_mem_drop h))
theorem upTo_len {w : Int} {m : Mk} {l : List Mk} {i : Nat} (hi : i ≤ l.length) : (upTo w m l i).length ≤ i + 1 := by
  unfold upTo
  split
  · simp; omega
  · simp; omega

theorem putF_zero {s : Nat} {l : List Mk} {m : Mk} : (putF s l m).2 = 0 ↔ rightB s l = true ∧ hasS s m.who.toNat = true ∧ isK' keyMk m.who l = false ∧ fitsB s m.past = true := by
  unfold putF
  split
  · simp [*]
  · split
    · simp [*]
    · split
      · simp [*]
      · split
        · simp [*]
        · simp_all

set_option maxHeartbeats 16000000 in
theorem putFR_ok : CallOk Try.prog 16 spPutF := by
  refine ok_16 (Env.put_ok [] (Env.put_ok [] (Env.put_ok [] (Env.none_ok _) hasR_ok) fitsR_ok) rightR_ok) spPutF (wb_spc ?_)
  rintro ⟨s, l, ⟨w, v⟩⟩ ⟨hs0, hs1, hll, hok, hm⟩
  simp only at hs0 hs1 hll hok hm ⊢
  obtain ⟨s, rfl⟩ := Int.eq_ofNat_of_zero_le hs0
  simp only [Int.toNat_natCast]
  have hsl : (s : Int) < 65536 := hs1
  have hll2 : l.length ≤ 100000000 := by omega
  have hsh : (l.map avMk).all AV.shaped = true := map_shaped fun x hx => avMk_shaped (hok x hx)
  obtain ⟨hw0, hw1, hv⟩ := id hm
  simp only at hw0 hw1 hv
  have hvl := hv.1
  unfold ac_16
  simp only [avMk, cMk]
  have eav : (fun m => AV.agg (cMk m)) = avMk := rfl
  cases hr : rightB s l
  · have hp : putF s l ⟨w, v⟩ = (l, 2) := by simp [putF, hr]
    rw [hp]
    repeat' first
        | with_reducible refine wp_regionS (seg_eval (by simp -dsimp -implicitDefEqProofs [zV_rest, hw0, hw1, hvl, hsl, hr, hll2, hok, hsh, rightAt]; rfl) ?_)
        | with_reducible refine wp_region (seg_eval (by simp -dsimp -implicitDefEqProofs [zV_rest, hw0, hw1, hvl, hsl, hr, hll2, hok, hsh, rightAt]; rfl) ?_)
        | with_reducible refine wp_drawsS (seg_eval (by simp -dsimp -implicitDefEqProofs [zV_rest, hw0, hw1, hvl, hsl, hr, hll2, hok, hsh, rightAt]; rfl) ?_)
        | with_reducible refine wp_draws (seg_eval (by simp -dsimp -implicitDefEqProofs [zV_rest, hw0, hw1, hvl, hsl, hr, hll2, hok, hsh, rightAt]; rfl) ?_)
        | with_reducible refine seg_fin ?_
        | with_reducible refine seg_pan ?_
        | with_reducible refine seg_both ?_ ?_
        | with_reducible refine seg_case (fun x h => ?_) (fun h => ?_)
        | with_reducible refine seg_gate (fun h => ?_) (fun h => ?_)
        | with_reducible refine seg_need ?_ ?_
        | with_reducible refine wp_assoc ?_ | with_reducible refine wp_skipS ?_ | with_reducible refine wp_retS ?_ | with_reducible refine wp_exitS ?_ | with_reducible refine wp_dropS (wp_eqT (by simp -dsimp -implicitDefEqProofs [zV_rest, hw0, hw1, hvl, hsl, hr, hll2, hok, hsh, rightAt]; rfl) ?_) | with_reducible refine wp_sealS (by simp -dsimp -implicitDefEqProofs [zV_rest, hw0, hw1, hvl, hsl, hr, hll2, hok, hsh, rightAt]; rfl) ?_ | with_reducible refine wp_seal (by simp -dsimp -implicitDefEqProofs [zV_rest, hw0, hw1, hvl, hsl, hr, hll2, hok, hsh, rightAt]; rfl) ?_ | with_reducible refine wp_closeS (by simp -dsimp -implicitDefEqProofs [zV_rest, hw0, hw1, hvl, hsl, hr, hll2, hok, hsh, rightAt]; rfl) ?_ | with_reducible refine wp_close (by simp -dsimp -implicitDefEqProofs [zV_rest, hw0, hw1, hvl, hsl, hr, hll2, hok, hsh, rightAt]; rfl) ?_ | with_reducible refine wp_conc_out ?_ | with_reducible refine wp_open_out ?_ | with_reducible refine wp_pack_out ?_ | with_reducible refine wp_blockS ?_ | with_reducible refine wp_skip' ?_ | with_reducible refine wp_ret' ?_ | with_reducible refine wp_exit' ?_ | with_reducible refine wp_drop (wp_eqT (by simp -dsimp -implicitDefEqProofs [zV_rest, hw0, hw1, hvl, hsl, hr, hll2, hok, hsh, rightAt]; rfl) ?_) | with_reducible refine wp_block' ?_
        | with_reducible refine wp_condVS (by simp -dsimp -implicitDefEqProofs [zV_rest, hw0, hw1, hvl, hsl, hr, hll2, hok, hsh, rightAt]; rfl) ?_
        | with_reducible refine wp_condV (by simp -dsimp -implicitDefEqProofs [zV_rest, hw0, hw1, hvl, hsl, hr, hll2, hok, hsh, rightAt]; rfl) ?_
        | with_reducible refine cond_t ?_ | with_reducible refine cond_f ?_ | with_reducible refine cond_v (fun h => ?_) (fun h => ?_)
        | with_reducible refine post_then ?_ | with_reducible refine post_thenE ?_ | with_reducible refine post_thenP ?_ | with_reducible refine post_blkP ?_ | with_reducible refine post_thenR ?_ | with_reducible refine post_blkN ?_ | with_reducible refine post_blkE ?_ | with_reducible refine post_blkF rfl ?_ | with_reducible refine post_blkR ?_
        | with_reducible refine seg_eval (by simp -dsimp -implicitDefEqProofs [zV_rest, hw0, hw1, hvl, hsl, hr, hll2, hok, hsh, rightAt]; rfl) ?_
    all_goals first
      | omega
      | exact post_fin rfl rfl ⟨[], [], rfl, rfl, rfl, rfl⟩
      | trace_state
  · have hst := marks_sort (right_iff.1 hr).2
    cases hh : hasS s w.toNat
    · have hp : putF s l ⟨w, v⟩ = (l, 10) := by simp [putF, hr, hh]
      rw [hp]
      repeat' first
          | with_reducible refine wp_regionS (seg_eval (by simp -dsimp -implicitDefEqProofs [zV_rest, hw0, hw1, hvl, hsl, hr, hh, hll2, hok, hsh, rightAt, spHas]; rfl) ?_)
          | with_reducible refine wp_region (seg_eval (by simp -dsimp -implicitDefEqProofs [zV_rest, hw0, hw1, hvl, hsl, hr, hh, hll2, hok, hsh, rightAt, spHas]; rfl) ?_)
          | with_reducible refine wp_drawsS (seg_eval (by simp -dsimp -implicitDefEqProofs [zV_rest, hw0, hw1, hvl, hsl, hr, hh, hll2, hok, hsh, rightAt, spHas]; rfl) ?_)
          | with_reducible refine wp_draws (seg_eval (by simp -dsimp -implicitDefEqProofs [zV_rest, hw0, hw1, hvl, hsl, hr, hh, hll2, hok, hsh, rightAt, spHas]; rfl) ?_)
          | with_reducible refine seg_fin ?_
          | with_reducible refine seg_pan ?_
          | with_reducible refine seg_both ?_ ?_
          | with_reducible refine seg_case (fun x h => ?_) (fun h => ?_)
          | with_reducible refine seg_gate (fun h => ?_) (fun h => ?_)
          | with_reducible refine seg_need ?_ ?_
          | with_reducible refine wp_assoc ?_ | with_reducible refine wp_skipS ?_ | with_reducible refine wp_retS ?_ | with_reducible refine wp_exitS ?_ | with_reducible refine wp_dropS (wp_eqT (by simp -dsimp -implicitDefEqProofs [zV_rest, hw0, hw1, hvl, hsl, hr, hh, hll2, hok, hsh, rightAt, spHas]; rfl) ?_) | with_reducible refine wp_sealS (by simp -dsimp -implicitDefEqProofs [zV_rest, hw0, hw1, hvl, hsl, hr, hh, hll2, hok, hsh, rightAt, spHas]; rfl) ?_ | with_reducible refine wp_seal (by simp -dsimp -implicitDefEqProofs [zV_rest, hw0, hw1, hvl, hsl, hr, hh, hll2, hok, hsh, rightAt, spHas]; rfl) ?_ | with_reducible refine wp_closeS (by simp -dsimp -implicitDefEqProofs [zV_rest, hw0, hw1, hvl, hsl, hr, hh, hll2, hok, hsh, rightAt, spHas]; rfl) ?_ | with_reducible refine wp_close (by simp -dsimp -implicitDefEqProofs [zV_rest, hw0, hw1, hvl, hsl, hr, hh, hll2, hok, hsh, rightAt, spHas]; rfl) ?_ | with_reducible refine wp_conc_out ?_ | with_reducible refine wp_open_out ?_ | with_reducible refine wp_pack_out ?_ | with_reducible refine wp_blockS ?_ | with_reducible refine wp_skip' ?_ | with_reducible refine wp_ret' ?_ | with_reducible refine wp_exit' ?_ | with_reducible refine wp_drop (wp_eqT (by simp -dsimp -implicitDefEqProofs [zV_rest, hw0, hw1, hvl, hsl, hr, hh, hll2, hok, hsh, rightAt, spHas]; rfl) ?_) | with_reducible refine wp_block' ?_
          | with_reducible refine wp_condVS (by simp -dsimp -implicitDefEqProofs [zV_rest, hw0, hw1, hvl, hsl, hr, hh, hll2, hok, hsh, rightAt, spHas]; rfl) ?_
          | with_reducible refine wp_condV (by simp -dsimp -implicitDefEqProofs [zV_rest, hw0, hw1, hvl, hsl, hr, hh, hll2, hok, hsh, rightAt, spHas]; rfl) ?_
          | with_reducible refine cond_t ?_ | with_reducible refine cond_f ?_ | with_reducible refine cond_v (fun h => ?_) (fun h => ?_)
          | with_reducible refine post_then ?_ | with_reducible refine post_thenE ?_ | with_reducible refine post_thenP ?_ | with_reducible refine post_blkP ?_ | with_reducible refine post_thenR ?_ | with_reducible refine post_blkN ?_ | with_reducible refine post_blkE ?_ | with_reducible refine post_blkF rfl ?_ | with_reducible refine post_blkR ?_
          | with_reducible refine seg_eval (by simp -dsimp -implicitDefEqProofs [zV_rest, hw0, hw1, hvl, hsl, hr, hh, hll2, hok, hsh, rightAt, spHas]; rfl) ?_
      all_goals first
        | omega
        | exact post_fin rfl rfl ⟨[], [], rfl, rfl, rfl, rfl⟩
        | trace_state
    · repeat' first
          | with_reducible refine wp_regionS (seg_eval (by simp -dsimp -implicitDefEqProofs [zV_rest, hw0, hw1, hvl, hsl, hr, hh, hll2, hok, hsh, rightAt, spHas]; rfl) ?_)
          | with_reducible refine wp_region (seg_eval (by simp -dsimp -implicitDefEqProofs [zV_rest, hw0, hw1, hvl, hsl, hr, hh, hll2, hok, hsh, rightAt, spHas]; rfl) ?_)
          | with_reducible refine wp_drawsS (seg_eval (by simp -dsimp -implicitDefEqProofs [zV_rest, hw0, hw1, hvl, hsl, hr, hh, hll2, hok, hsh, rightAt, spHas]; rfl) ?_)
          | with_reducible refine wp_draws (seg_eval (by simp -dsimp -implicitDefEqProofs [zV_rest, hw0, hw1, hvl, hsl, hr, hh, hll2, hok, hsh, rightAt, spHas]; rfl) ?_)
          | with_reducible refine seg_fin ?_
          | with_reducible refine seg_pan ?_
          | with_reducible refine seg_both ?_ ?_
          | with_reducible refine seg_case (fun x h => ?_) (fun h => ?_)
          | with_reducible refine seg_gate (fun h => ?_) (fun h => ?_)
          | with_reducible refine seg_need ?_ ?_
          | with_reducible refine wp_assoc ?_ | with_reducible refine wp_skipS ?_ | with_reducible refine wp_retS ?_ | with_reducible refine wp_exitS ?_ | with_reducible refine wp_dropS (wp_eqT (by simp -dsimp -implicitDefEqProofs [zV_rest, hw0, hw1, hvl, hsl, hr, hh, hll2, hok, hsh, rightAt, spHas]; rfl) ?_) | with_reducible refine wp_sealS (by simp -dsimp -implicitDefEqProofs [zV_rest, hw0, hw1, hvl, hsl, hr, hh, hll2, hok, hsh, rightAt, spHas]; rfl) ?_ | with_reducible refine wp_seal (by simp -dsimp -implicitDefEqProofs [zV_rest, hw0, hw1, hvl, hsl, hr, hh, hll2, hok, hsh, rightAt, spHas]; rfl) ?_ | with_reducible refine wp_closeS (by simp -dsimp -implicitDefEqProofs [zV_rest, hw0, hw1, hvl, hsl, hr, hh, hll2, hok, hsh, rightAt, spHas]; rfl) ?_ | with_reducible refine wp_close (by simp -dsimp -implicitDefEqProofs [zV_rest, hw0, hw1, hvl, hsl, hr, hh, hll2, hok, hsh, rightAt, spHas]; rfl) ?_ | with_reducible refine wp_conc_out ?_ | with_reducible refine wp_open_out ?_ | with_reducible refine wp_pack_out ?_ | with_reducible refine wp_blockS ?_ | with_reducible refine wp_skip' ?_ | with_reducible refine wp_ret' ?_ | with_reducible refine wp_exit' ?_ | with_reducible refine wp_drop (wp_eqT (by simp -dsimp -implicitDefEqProofs [zV_rest, hw0, hw1, hvl, hsl, hr, hh, hll2, hok, hsh, rightAt, spHas]; rfl) ?_) | with_reducible refine wp_block' ?_
          | with_reducible refine wp_condVS (by simp -dsimp -implicitDefEqProofs [zV_rest, hw0, hw1, hvl, hsl, hr, hh, hll2, hok, hsh, rightAt, spHas]; rfl) ?_
          | with_reducible refine wp_condV (by simp -dsimp -implicitDefEqProofs [zV_rest, hw0, hw1, hvl, hsl, hr, hh, hll2, hok, hsh, rightAt, spHas]; rfl) ?_
          | with_reducible refine cond_t ?_ | with_reducible refine cond_f ?_ | with_reducible refine cond_v (fun h => ?_) (fun h => ?_)
          | with_reducible refine post_then ?_ | with_reducible refine post_thenE ?_ | with_reducible refine post_thenP ?_ | with_reducible refine post_blkP ?_ | with_reducible refine post_thenR ?_ | with_reducible refine post_blkN ?_ | with_reducible refine post_blkE ?_ | with_reducible refine post_blkF rfl ?_ | with_reducible refine post_blkR ?_
          | with_reducible refine seg_eval (by simp -dsimp -implicitDefEqProofs [zV_rest, hw0, hw1, hvl, hsl, hr, hh, hll2, hok, hsh, rightAt, spHas]; rfl) ?_
      · exact hok
      refine wp_loop' (fun j ts mm => ∃ i : Nat, i + j = l.length ∧ (∀ k x, k < i → l[k]? = some x → x.who ≠ w) ∧
        ts = [(2, .ptr 0 0 0), (3, .fptr (.agg (mc w v)) 0), (4, .ptr 1 0 0), (6, .osl 2), (7, .v (.bool (decide (posK keyMk w l < i)))), (8, .v (.int .i64 i))] ∧
        mm = [.var [.v (.int .u16 (s : Int)), .fsl 17 (l.map avMk)], .var [.v (.int .u16 0), .v (.slice none 0 0)], .arr 30 17 ((upTo w ⟨w, v⟩ l i).map avMk)]) l.length ?_ ?_
      · exact ⟨[(6, 30, 17)], [0, 2, 3], rfl, rfl, 0, by omega, fun k x hk => by omega, by simp, by simp [upTo_zero]⟩
      · rintro j ts mm ⟨i, hi, hlo, rfl, rfl⟩
        have hul := upTo_len (w := w) (m := ⟨w, v⟩) (l := l) (i := i) (by omega)
        by_cases hlt : i < l.length
        · obtain ⟨x, hx⟩ : ∃ x, l[i]? = some x := ⟨_, List.getElem?_eq_getElem (by omega)⟩
          have hxo := hok x (List.mem_of_getElem? hx)
          have hxl := hxo.2.2.1
          have hd : decide ((i : Int) < (l.length : Int)) = true := by rw [decide_eq_true_eq]; omega
          have hd2 : decide (i < l.length) = true := by simp [hlt]
          have h64 : IntKind.wrap .i64 ((i : Int) + 1) = ((i + 1 : Nat) : Int) := by rw [IntWalk.i64_in _ (by omega)]; rfl
          have hshx : ((upTo w ⟨w, v⟩ l i).map avMk).all AV.shaped = true := map_shaped fun x hx => by
            rcases upTo_mem hx with rfl | hx
            · exact avMk_shaped hm
            · exact avMk_shaped (hok _ hx)
          have hmc : (AV.agg (mc w v)).shaped = true := by simp [AV.shaped, mc_one]
          have hxc : (AV.agg (mc x.who x.past)).shaped = true := by simp [AV.shaped, mc_one]
          by_cases hxw : x.who = w
          · have hp : putF s l ⟨w, v⟩ = (l, 9) := by
              have : isK' keyMk w l = true := by
                cases h : isK' keyMk w l with
                | true => rfl
                | false => exact absurd hxw (isK_false.1 h x (List.mem_of_getElem? hx))
              simp [putF, hr, hh, this]
            rw [hp]
            repeat' first
                | with_reducible refine wp_regionS (seg_eval (by simp -dsimp -implicitDefEqProofs [avMk, cMk, hd, hd2, h64, hx, hxl, hvl, hxw, hul]; rfl) ?_)
                | with_reducible refine wp_region (seg_eval (by simp -dsimp -implicitDefEqProofs [avMk, cMk, hd, hd2, h64, hx, hxl, hvl, hxw, hul]; rfl) ?_)
                | with_reducible refine wp_drawsS (seg_eval (by simp -dsimp -implicitDefEqProofs [avMk, cMk, hd, hd2, h64, hx, hxl, hvl, hxw, hul]; rfl) ?_)
                | with_reducible refine wp_draws (seg_eval (by simp -dsimp -implicitDefEqProofs [avMk, cMk, hd, hd2, h64, hx, hxl, hvl, hxw, hul]; rfl) ?_)
                | with_reducible refine seg_fin ?_
                | with_reducible refine seg_pan ?_
                | with_reducible refine seg_both ?_ ?_
                | with_reducible refine seg_case (fun x h => ?_) (fun h => ?_)
                | with_reducible refine seg_gate (fun h => ?_) (fun h => ?_)
                | with_reducible refine seg_need ?_ ?_
                | with_reducible refine wp_assoc ?_ | with_reducible refine wp_skipS ?_ | with_reducible refine wp_retS ?_ | with_reducible refine wp_exitS ?_ | with_reducible refine wp_dropS (wp_eqT (by simp -dsimp -implicitDefEqProofs [avMk, cMk, hd, hd2, h64, hx, hxl, hvl, hxw, hul]; rfl) ?_) | with_reducible refine wp_sealS (by simp -dsimp -implicitDefEqProofs [avMk, cMk, hd, hd2, h64, hx, hxl, hvl, hxw, hul]; rfl) ?_ | with_reducible refine wp_seal (by simp -dsimp -implicitDefEqProofs [avMk, cMk, hd, hd2, h64, hx, hxl, hvl, hxw, hul]; rfl) ?_ | with_reducible refine wp_closeS (by simp -dsimp -implicitDefEqProofs [avMk, cMk, hd, hd2, h64, hx, hxl, hvl, hxw, hul]; rfl) ?_ | with_reducible refine wp_close (by simp -dsimp -implicitDefEqProofs [avMk, cMk, hd, hd2, h64, hx, hxl, hvl, hxw, hul]; rfl) ?_ | with_reducible refine wp_conc_out ?_ | with_reducible refine wp_open_out ?_ | with_reducible refine wp_pack_out ?_ | with_reducible refine wp_blockS ?_ | with_reducible refine wp_skip' ?_ | with_reducible refine wp_ret' ?_ | with_reducible refine wp_exit' ?_ | with_reducible refine wp_drop (wp_eqT (by simp -dsimp -implicitDefEqProofs [avMk, cMk, hd, hd2, h64, hx, hxl, hvl, hxw, hul]; rfl) ?_) | with_reducible refine wp_block' ?_
                | with_reducible refine wp_condVS (by simp -dsimp -implicitDefEqProofs [avMk, cMk, hd, hd2, h64, hx, hxl, hvl, hxw, hul]; rfl) ?_
                | with_reducible refine wp_condV (by simp -dsimp -implicitDefEqProofs [avMk, cMk, hd, hd2, h64, hx, hxl, hvl, hxw, hul]; rfl) ?_
                | with_reducible refine cond_t ?_ | with_reducible refine cond_f ?_ | with_reducible refine cond_v (fun h => ?_) (fun h => ?_)
                | with_reducible refine post_then ?_ | with_reducible refine post_thenE ?_ | with_reducible refine post_thenP ?_ | with_reducible refine post_blkP ?_ | with_reducible refine post_thenR ?_ | with_reducible refine post_blkN ?_ | with_reducible refine post_blkE ?_ | with_reducible refine post_blkF rfl ?_ | with_reducible refine post_blkR ?_
                | with_reducible refine seg_eval (by simp -dsimp -implicitDefEqProofs [avMk, cMk, hd, hd2, h64, hx, hxl, hvl, hxw, hul]; rfl) ?_
            all_goals first
              | omega
              | exact post_fin rfl rfl ⟨[], [], rfl, rfl, rfl, rfl⟩
              | trace_state
          · have hxw2 : (x.who == w) = false := by simp [hxw]
            have hlo2 : ∀ k z, k < i + 1 → l[k]? = some z → z.who ≠ w := by
              intro k z hk hz
              by_cases hki : k = i
              · subst hki; rw [hx] at hz; cases hz; exact hxw
              · exact hlo k z (by omega) hz
            rcases Nat.lt_trichotomy i (posK keyMk w l) with hp | hp | hp
            · have hk := posK_lt hp hx
              have c1 : decide (posK keyMk w l < i) = false := by simp; omega
              have c2 : decide (w < x.who) = false := by rw [decide_eq_false_iff_not]; unfold keyMk at hk; omega
              have c3 : decide (posK keyMk w l < i + 1) = false := by simp; omega
              have hu := upTo_low (m := ⟨w, v⟩) hp hx
              repeat' first
                  | with_reducible refine wp_regionS (seg_eval (by simp -dsimp -implicitDefEqProofs [avMk, cMk, hd, hd2, h64, hx, hxl, hvl, hxw, hxw2, hul, c1, c2, hshx, hmc, hxc]; rfl) ?_)
                  | with_reducible refine wp_region (seg_eval (by simp -dsimp -implicitDefEqProofs [avMk, cMk, hd, hd2, h64, hx, hxl, hvl, hxw, hxw2, hul, c1, c2, hshx, hmc, hxc]; rfl) ?_)
                  | with_reducible refine wp_drawsS (seg_eval (by simp -dsimp -implicitDefEqProofs [avMk, cMk, hd, hd2, h64, hx, hxl, hvl, hxw, hxw2, hul, c1, c2, hshx, hmc, hxc]; rfl) ?_)
                  | with_reducible refine wp_draws (seg_eval (by simp -dsimp -implicitDefEqProofs [avMk, cMk, hd, hd2, h64, hx, hxl, hvl, hxw, hxw2, hul, c1, c2, hshx, hmc, hxc]; rfl) ?_)
                  | with_reducible refine seg_fin ?_
                  | with_reducible refine seg_pan ?_
                  | with_reducible refine seg_both ?_ ?_
                  | with_reducible refine seg_case (fun x h => ?_) (fun h => ?_)
                  | with_reducible refine seg_gate (fun h => ?_) (fun h => ?_)
                  | with_reducible refine seg_need ?_ ?_
                  | with_reducible refine wp_assoc ?_ | with_reducible refine wp_skipS ?_ | with_reducible refine wp_retS ?_ | with_reducible refine wp_exitS ?_ | with_reducible refine wp_dropS (wp_eqT (by simp -dsimp -implicitDefEqProofs [avMk, cMk, hd, hd2, h64, hx, hxl, hvl, hxw, hxw2, hul, c1, c2, hshx, hmc, hxc]; rfl) ?_) | with_reducible refine wp_sealS (by simp -dsimp -implicitDefEqProofs [avMk, cMk, hd, hd2, h64, hx, hxl, hvl, hxw, hxw2, hul, c1, c2, hshx, hmc, hxc]; rfl) ?_ | with_reducible refine wp_seal (by simp -dsimp -implicitDefEqProofs [avMk, cMk, hd, hd2, h64, hx, hxl, hvl, hxw, hxw2, hul, c1, c2, hshx, hmc, hxc]; rfl) ?_ | with_reducible refine wp_closeS (by simp -dsimp -implicitDefEqProofs [avMk, cMk, hd, hd2, h64, hx, hxl, hvl, hxw, hxw2, hul, c1, c2, hshx, hmc, hxc]; rfl) ?_ | with_reducible refine wp_close (by simp -dsimp -implicitDefEqProofs [avMk, cMk, hd, hd2, h64, hx, hxl, hvl, hxw, hxw2, hul, c1, c2, hshx, hmc, hxc]; rfl) ?_ | with_reducible refine wp_conc_out ?_ | with_reducible refine wp_open_out ?_ | with_reducible refine wp_pack_out ?_ | with_reducible refine wp_blockS ?_ | with_reducible refine wp_skip' ?_ | with_reducible refine wp_ret' ?_ | with_reducible refine wp_exit' ?_ | with_reducible refine wp_drop (wp_eqT (by simp -dsimp -implicitDefEqProofs [avMk, cMk, hd, hd2, h64, hx, hxl, hvl, hxw, hxw2, hul, c1, c2, hshx, hmc, hxc]; rfl) ?_) | with_reducible refine wp_block' ?_
                  | with_reducible refine wp_condVS (by simp -dsimp -implicitDefEqProofs [avMk, cMk, hd, hd2, h64, hx, hxl, hvl, hxw, hxw2, hul, c1, c2, hshx, hmc, hxc]; rfl) ?_
                  | with_reducible refine wp_condV (by simp -dsimp -implicitDefEqProofs [avMk, cMk, hd, hd2, h64, hx, hxl, hvl, hxw, hxw2, hul, c1, c2, hshx, hmc, hxc]; rfl) ?_
                  | with_reducible refine cond_t ?_ | with_reducible refine cond_f ?_ | with_reducible refine cond_v (fun h => ?_) (fun h => ?_)
                  | with_reducible refine post_then ?_ | with_reducible refine post_thenE ?_ | with_reducible refine post_thenP ?_ | with_reducible refine post_blkP ?_ | with_reducible refine post_thenR ?_ | with_reducible refine post_blkN ?_ | with_reducible refine post_blkE ?_ | with_reducible refine post_blkF rfl ?_ | with_reducible refine post_blkR ?_
                  | with_reducible refine seg_eval (by simp -dsimp -implicitDefEqProofs [avMk, cMk, hd, hd2, h64, hx, hxl, hvl, hxw, hxw2, hul, c1, c2, hshx, hmc, hxc]; rfl) ?_
              all_goals first
                | omega
                | exact ⟨j - 1, by omega, [], [0, 1, 4], by simp, by simp, i + 1, by omega, hlo2, by simp [c3], by simp [hu, avMk, cMk]⟩
                | trace_state
            · have hk := posK_ge hst (Nat.le_of_eq hp.symm) hx
              have c1 : decide (posK keyMk w l < i) = false := by simp; omega
              have c2 : decide (w < x.who) = true := by rw [decide_eq_true_eq]; unfold keyMk at hk; omega
              have c3 : decide (posK keyMk w l < i + 1) = true := by simp; omega
              have hu := upTo_at (m := ⟨w, v⟩) hp hx
              repeat' first
                  | with_reducible refine wp_regionS (seg_eval (by simp -dsimp -implicitDefEqProofs [avMk, cMk, hd, hd2, h64, hx, hxl, hvl, hxw, hxw2, hul, c1, c2, hshx, hmc, hxc]; rfl) ?_)
                  | with_reducible refine wp_region (seg_eval (by simp -dsimp -implicitDefEqProofs [avMk, cMk, hd, hd2, h64, hx, hxl, hvl, hxw, hxw2, hul, c1, c2, hshx, hmc, hxc]; rfl) ?_)
                  | with_reducible refine wp_drawsS (seg_eval (by simp -dsimp -implicitDefEqProofs [avMk, cMk, hd, hd2, h64, hx, hxl, hvl, hxw, hxw2, hul, c1, c2, hshx, hmc, hxc]; rfl) ?_)
                  | with_reducible refine wp_draws (seg_eval (by simp -dsimp -implicitDefEqProofs [avMk, cMk, hd, hd2, h64, hx, hxl, hvl, hxw, hxw2, hul, c1, c2, hshx, hmc, hxc]; rfl) ?_)
                  | with_reducible refine seg_fin ?_
                  | with_reducible refine seg_pan ?_
                  | with_reducible refine seg_both ?_ ?_
                  | with_reducible refine seg_case (fun x h => ?_) (fun h => ?_)
                  | with_reducible refine seg_gate (fun h => ?_) (fun h => ?_)
                  | with_reducible refine seg_need ?_ ?_
                  | with_reducible refine wp_assoc ?_ | with_reducible refine wp_skipS ?_ | with_reducible refine wp_retS ?_ | with_reducible refine wp_exitS ?_ | with_reducible refine wp_dropS (wp_eqT (by simp -dsimp -implicitDefEqProofs [avMk, cMk, hd, hd2, h64, hx, hxl, hvl, hxw, hxw2, hul, c1, c2, hshx, hmc, hxc]; rfl) ?_) | with_reducible refine wp_sealS (by simp -dsimp -implicitDefEqProofs [avMk, cMk, hd, hd2, h64, hx, hxl, hvl, hxw, hxw2, hul, c1, c2, hshx, hmc, hxc]; rfl) ?_ | with_reducible refine wp_seal (by simp -dsimp -implicitDefEqProofs [avMk, cMk, hd, hd2, h64, hx, hxl, hvl, hxw, hxw2, hul, c1, c2, hshx, hmc, hxc]; rfl) ?_ | with_reducible refine wp_closeS (by simp -dsimp -implicitDefEqProofs [avMk, cMk, hd, hd2, h64, hx, hxl, hvl, hxw, hxw2, hul, c1, c2, hshx, hmc, hxc]; rfl) ?_ | with_reducible refine wp_close (by simp -dsimp -implicitDefEqProofs [avMk, cMk, hd, hd2, h64, hx, hxl, hvl, hxw, hxw2, hul, c1, c2, hshx, hmc, hxc]; rfl) ?_ | with_reducible refine wp_conc_out ?_ | with_reducible refine wp_open_out ?_ | with_reducible refine wp_pack_out ?_ | with_reducible refine wp_blockS ?_ | with_reducible refine wp_skip' ?_ | with_reducible refine wp_ret' ?_ | with_reducible refine wp_exit' ?_ | with_reducible refine wp_drop (wp_eqT (by simp -dsimp -implicitDefEqProofs [avMk, cMk, hd, hd2, h64, hx, hxl, hvl, hxw, hxw2, hul, c1, c2, hshx, hmc, hxc]; rfl) ?_) | with_reducible refine wp_block' ?_
                  | with_reducible refine wp_condVS (by simp -dsimp -implicitDefEqProofs [avMk, cMk, hd, hd2, h64, hx, hxl, hvl, hxw, hxw2, hul, c1, c2, hshx, hmc, hxc]; rfl) ?_
                  | with_reducible refine wp_condV (by simp -dsimp -implicitDefEqProofs [avMk, cMk, hd, hd2, h64, hx, hxl, hvl, hxw, hxw2, hul, c1, c2, hshx, hmc, hxc]; rfl) ?_
                  | with_reducible refine cond_t ?_ | with_reducible refine cond_f ?_ | with_reducible refine cond_v (fun h => ?_) (fun h => ?_)
                  | with_reducible refine post_then ?_ | with_reducible refine post_thenE ?_ | with_reducible refine post_thenP ?_ | with_reducible refine post_blkP ?_ | with_reducible refine post_thenR ?_ | with_reducible refine post_blkN ?_ | with_reducible refine post_blkE ?_ | with_reducible refine post_blkF rfl ?_ | with_reducible refine post_blkR ?_
                  | with_reducible refine seg_eval (by simp -dsimp -implicitDefEqProofs [avMk, cMk, hd, hd2, h64, hx, hxl, hvl, hxw, hxw2, hul, c1, c2, hshx, hmc, hxc]; rfl) ?_
              all_goals first
                | omega
                | exact ⟨j - 1, by omega, [], [0, 1, 6], by simp, by simp, i + 1, by omega, hlo2, by simp [c3], by simp [hu, avMk, cMk]⟩
                | trace_state
            · have c1 : decide (posK keyMk w l < i) = true := by simp; omega
              have c3 : decide (posK keyMk w l < i + 1) = true := by simp; omega
              have hu := upTo_high (m := ⟨w, v⟩) hp hx
              repeat' first
                  | with_reducible refine wp_regionS (seg_eval (by simp -dsimp -implicitDefEqProofs [avMk, cMk, hd, hd2, h64, hx, hxl, hvl, hxw, hxw2, hul, c1, hshx, hmc, hxc]; rfl) ?_)
                  | with_reducible refine wp_region (seg_eval (by simp -dsimp -implicitDefEqProofs [avMk, cMk, hd, hd2, h64, hx, hxl, hvl, hxw, hxw2, hul, c1, hshx, hmc, hxc]; rfl) ?_)
                  | with_reducible refine wp_drawsS (seg_eval (by simp -dsimp -implicitDefEqProofs [avMk, cMk, hd, hd2, h64, hx, hxl, hvl, hxw, hxw2, hul, c1, hshx, hmc, hxc]; rfl) ?_)
                  | with_reducible refine wp_draws (seg_eval (by simp -dsimp -implicitDefEqProofs [avMk, cMk, hd, hd2, h64, hx, hxl, hvl, hxw, hxw2, hul, c1, hshx, hmc, hxc]; rfl) ?_)
                  | with_reducible refine seg_fin ?_
                  | with_reducible refine seg_pan ?_
                  | with_reducible refine seg_both ?_ ?_
                  | with_reducible refine seg_case (fun x h => ?_) (fun h => ?_)
                  | with_reducible refine seg_gate (fun h => ?_) (fun h => ?_)
                  | with_reducible refine seg_need ?_ ?_
                  | with_reducible refine wp_assoc ?_ | with_reducible refine wp_skipS ?_ | with_reducible refine wp_retS ?_ | with_reducible refine wp_exitS ?_ | with_reducible refine wp_dropS (wp_eqT (by simp -dsimp -implicitDefEqProofs [avMk, cMk, hd, hd2, h64, hx, hxl, hvl, hxw, hxw2, hul, c1, hshx, hmc, hxc]; rfl) ?_) | with_reducible refine wp_sealS (by simp -dsimp -implicitDefEqProofs [avMk, cMk, hd, hd2, h64, hx, hxl, hvl, hxw, hxw2, hul, c1, hshx, hmc, hxc]; rfl) ?_ | with_reducible refine wp_seal (by simp -dsimp -implicitDefEqProofs [avMk, cMk, hd, hd2, h64, hx, hxl, hvl, hxw, hxw2, hul, c1, hshx, hmc, hxc]; rfl) ?_ | with_reducible refine wp_closeS (by simp -dsimp -implicitDefEqProofs [avMk, cMk, hd, hd2, h64, hx, hxl, hvl, hxw, hxw2, hul, c1, hshx, hmc, hxc]; rfl) ?_ | with_reducible refine wp_close (by simp -dsimp -implicitDefEqProofs [avMk, cMk, hd, hd2, h64, hx, hxl, hvl, hxw, hxw2, hul, c1, hshx, hmc, hxc]; rfl) ?_ | with_reducible refine wp_conc_out ?_ | with_reducible refine wp_open_out ?_ | with_reducible refine wp_pack_out ?_ | with_reducible refine wp_blockS ?_ | with_reducible refine wp_skip' ?_ | with_reducible refine wp_ret' ?_ | with_reducible refine wp_exit' ?_ | with_reducible refine wp_drop (wp_eqT (by simp -dsimp -implicitDefEqProofs [avMk, cMk, hd, hd2, h64, hx, hxl, hvl, hxw, hxw2, hul, c1, hshx, hmc, hxc]; rfl) ?_) | with_reducible refine wp_block' ?_
                  | with_reducible refine wp_condVS (by simp -dsimp -implicitDefEqProofs [avMk, cMk, hd, hd2, h64, hx, hxl, hvl, hxw, hxw2, hul, c1, hshx, hmc, hxc]; rfl) ?_
                  | with_reducible refine wp_condV (by simp -dsimp -implicitDefEqProofs [avMk, cMk, hd, hd2, h64, hx, hxl, hvl, hxw, hxw2, hul, c1, hshx, hmc, hxc]; rfl) ?_
                  | with_reducible refine cond_t ?_ | with_reducible refine cond_f ?_ | with_reducible refine cond_v (fun h => ?_) (fun h => ?_)
                  | with_reducible refine post_then ?_ | with_reducible refine post_thenE ?_ | with_reducible refine post_thenP ?_ | with_reducible refine post_blkP ?_ | with_reducible refine post_thenR ?_ | with_reducible refine post_blkN ?_ | with_reducible refine post_blkE ?_ | with_reducible refine post_blkF rfl ?_ | with_reducible refine post_blkR ?_
                  | with_reducible refine seg_eval (by simp -dsimp -implicitDefEqProofs [avMk, cMk, hd, hd2, h64, hx, hxl, hvl, hxw, hxw2, hul, c1, hshx, hmc, hxc]; rfl) ?_
              all_goals first
                | omega
                | exact ⟨j - 1, by omega, [], [0, 1, 4], by simp, by simp, i + 1, by omega, hlo2, by simp [c3], by simp [hu, avMk, cMk]⟩
                | trace_state
        · have hd : decide ((i : Int) < (l.length : Int)) = false := by rw [decide_eq_false_iff_not]; omega
          have hd2 : decide (i < l.length) = false := by simp [hlt]
          have hil : i = l.length := by omega
          subst hil
          have hi2 : isK' keyMk w l = false := isK_false.2 fun x hx => by
            obtain ⟨k, hk⟩ := List.mem_iff_getElem?.1 hx
            exact hlo k x (List.getElem?_eq_some_iff.1 hk).1 hk
          have hshx : ((upTo w ⟨w, v⟩ l l.length).map avMk).all AV.shaped = true := map_shaped fun x hx => by
            rcases upTo_mem hx with rfl | hx
            · exact avMk_shaped hm
            · exact avMk_shaped (hok _ hx)
          have hmc : (AV.agg (mc w v)).shaped = true := by simp [AV.shaped, mc_one]
          by_cases hpl : posK keyMk w l < l.length
          · have hu := upTo_all (m := ⟨w, v⟩) hpl
            have c1 : decide (posK keyMk w l < l.length) = true := by simp [hpl]
            simp only at hu
            rw [hu] at hul hshx ⊢
            cases hf : fitsB s v
            · have hp : putF s l ⟨w, v⟩ = (l, 2) := by simp [putF, hr, hh, hi2, hf]
              rw [hp]
              repeat' first
                  | with_reducible refine wp_regionS (seg_eval (by simp -dsimp -implicitDefEqProofs [hd, hd2, hvl, hv, hsl, hul, c1, hshx, hmc, hf, fitsRAt]; rfl) ?_)
                  | with_reducible refine wp_region (seg_eval (by simp -dsimp -implicitDefEqProofs [hd, hd2, hvl, hv, hsl, hul, c1, hshx, hmc, hf, fitsRAt]; rfl) ?_)
                  | with_reducible refine wp_drawsS (seg_eval (by simp -dsimp -implicitDefEqProofs [hd, hd2, hvl, hv, hsl, hul, c1, hshx, hmc, hf, fitsRAt]; rfl) ?_)
                  | with_reducible refine wp_draws (seg_eval (by simp -dsimp -implicitDefEqProofs [hd, hd2, hvl, hv, hsl, hul, c1, hshx, hmc, hf, fitsRAt]; rfl) ?_)
                  | with_reducible refine seg_fin ?_
                  | with_reducible refine seg_pan ?_
                  | with_reducible refine seg_both ?_ ?_
                  | with_reducible refine seg_case (fun x h => ?_) (fun h => ?_)
                  | with_reducible refine seg_gate (fun h => ?_) (fun h => ?_)
                  | with_reducible refine seg_need ?_ ?_
                  | with_reducible refine wp_assoc ?_ | with_reducible refine wp_skipS ?_ | with_reducible refine wp_retS ?_ | with_reducible refine wp_exitS ?_ | with_reducible refine wp_dropS (wp_eqT (by simp -dsimp -implicitDefEqProofs [hd, hd2, hvl, hv, hsl, hul, c1, hshx, hmc, hf, fitsRAt]; rfl) ?_) | with_reducible refine wp_sealS (by simp -dsimp -implicitDefEqProofs [hd, hd2, hvl, hv, hsl, hul, c1, hshx, hmc, hf, fitsRAt]; rfl) ?_ | with_reducible refine wp_seal (by simp -dsimp -implicitDefEqProofs [hd, hd2, hvl, hv, hsl, hul, c1, hshx, hmc, hf, fitsRAt]; rfl) ?_ | with_reducible refine wp_closeS (by simp -dsimp -implicitDefEqProofs [hd, hd2, hvl, hv, hsl, hul, c1, hshx, hmc, hf, fitsRAt]; rfl) ?_ | with_reducible refine wp_close (by simp -dsimp -implicitDefEqProofs [hd, hd2, hvl, hv, hsl, hul, c1, hshx, hmc, hf, fitsRAt]; rfl) ?_ | with_reducible refine wp_conc_out ?_ | with_reducible refine wp_open_out ?_ | with_reducible refine wp_pack_out ?_ | with_reducible refine wp_blockS ?_ | with_reducible refine wp_skip' ?_ | with_reducible refine wp_ret' ?_ | with_reducible refine wp_exit' ?_ | with_reducible refine wp_drop (wp_eqT (by simp -dsimp -implicitDefEqProofs [hd, hd2, hvl, hv, hsl, hul, c1, hshx, hmc, hf, fitsRAt]; rfl) ?_) | with_reducible refine wp_block' ?_
                  | with_reducible refine wp_condVS (by simp -dsimp -implicitDefEqProofs [hd, hd2, hvl, hv, hsl, hul, c1, hshx, hmc, hf, fitsRAt]; rfl) ?_
                  | with_reducible refine wp_condV (by simp -dsimp -implicitDefEqProofs [hd, hd2, hvl, hv, hsl, hul, c1, hshx, hmc, hf, fitsRAt]; rfl) ?_
                  | with_reducible refine cond_t ?_ | with_reducible refine cond_f ?_ | with_reducible refine cond_v (fun h => ?_) (fun h => ?_)
                  | with_reducible refine post_then ?_ | with_reducible refine post_thenE ?_ | with_reducible refine post_thenP ?_ | with_reducible refine post_blkP ?_ | with_reducible refine post_thenR ?_ | with_reducible refine post_blkN ?_ | with_reducible refine post_blkE ?_ | with_reducible refine post_blkF rfl ?_ | with_reducible refine post_blkR ?_
                  | with_reducible refine seg_eval (by simp -dsimp -implicitDefEqProofs [hd, hd2, hvl, hv, hsl, hul, c1, hshx, hmc, hf, fitsRAt]; rfl) ?_
              all_goals first
                | omega
                | exact post_fin rfl rfl ⟨[], [], rfl, rfl, rfl, rfl⟩
                | trace_state
            · have hp : putF s l ⟨w, v⟩ = (insK keyMk ⟨w, v⟩ l, 0) := by simp [putF, hr, hh, hi2, hf]
              rw [hp]
              repeat' first
                  | with_reducible refine wp_regionS (seg_eval (by simp -dsimp -implicitDefEqProofs [hd, hd2, hvl, hv, hsl, hul, c1, hshx, hmc, hf, fitsRAt]; rfl) ?_)
                  | with_reducible refine wp_region (seg_eval (by simp -dsimp -implicitDefEqProofs [hd, hd2, hvl, hv, hsl, hul, c1, hshx, hmc, hf, fitsRAt]; rfl) ?_)
                  | with_reducible refine wp_drawsS (seg_eval (by simp -dsimp -implicitDefEqProofs [hd, hd2, hvl, hv, hsl, hul, c1, hshx, hmc, hf, fitsRAt]; rfl) ?_)
                  | with_reducible refine wp_draws (seg_eval (by simp -dsimp -implicitDefEqProofs [hd, hd2, hvl, hv, hsl, hul, c1, hshx, hmc, hf, fitsRAt]; rfl) ?_)
                  | with_reducible refine seg_fin ?_
                  | with_reducible refine seg_pan ?_
                  | with_reducible refine seg_both ?_ ?_
                  | with_reducible refine seg_case (fun x h => ?_) (fun h => ?_)
                  | with_reducible refine seg_gate (fun h => ?_) (fun h => ?_)
                  | with_reducible refine seg_need ?_ ?_
                  | with_reducible refine wp_assoc ?_ | with_reducible refine wp_skipS ?_ | with_reducible refine wp_retS ?_ | with_reducible refine wp_exitS ?_ | with_reducible refine wp_dropS (wp_eqT (by simp -dsimp -implicitDefEqProofs [hd, hd2, hvl, hv, hsl, hul, c1, hshx, hmc, hf, fitsRAt]; rfl) ?_) | with_reducible refine wp_sealS (by simp -dsimp -implicitDefEqProofs [hd, hd2, hvl, hv, hsl, hul, c1, hshx, hmc, hf, fitsRAt]; rfl) ?_ | with_reducible refine wp_seal (by simp -dsimp -implicitDefEqProofs [hd, hd2, hvl, hv, hsl, hul, c1, hshx, hmc, hf, fitsRAt]; rfl) ?_ | with_reducible refine wp_closeS (by simp -dsimp -implicitDefEqProofs [hd, hd2, hvl, hv, hsl, hul, c1, hshx, hmc, hf, fitsRAt]; rfl) ?_ | with_reducible refine wp_close (by simp -dsimp -implicitDefEqProofs [hd, hd2, hvl, hv, hsl, hul, c1, hshx, hmc, hf, fitsRAt]; rfl) ?_ | with_reducible refine wp_conc_out ?_ | with_reducible refine wp_open_out ?_ | with_reducible refine wp_pack_out ?_ | with_reducible refine wp_blockS ?_ | with_reducible refine wp_skip' ?_ | with_reducible refine wp_ret' ?_ | with_reducible refine wp_exit' ?_ | with_reducible refine wp_drop (wp_eqT (by simp -dsimp -implicitDefEqProofs [hd, hd2, hvl, hv, hsl, hul, c1, hshx, hmc, hf, fitsRAt]; rfl) ?_) | with_reducible refine wp_block' ?_
                  | with_reducible refine wp_condVS (by simp -dsimp -implicitDefEqProofs [hd, hd2, hvl, hv, hsl, hul, c1, hshx, hmc, hf, fitsRAt]; rfl) ?_
                  | with_reducible refine wp_condV (by simp -dsimp -implicitDefEqProofs [hd, hd2, hvl, hv, hsl, hul, c1, hshx, hmc, hf, fitsRAt]; rfl) ?_
                  | with_reducible refine cond_t ?_ | with_reducible refine cond_f ?_ | with_reducible refine cond_v (fun h => ?_) (fun h => ?_)
                  | with_reducible refine post_then ?_ | with_reducible refine post_thenE ?_ | with_reducible refine post_thenP ?_ | with_reducible refine post_blkP ?_ | with_reducible refine post_thenR ?_ | with_reducible refine post_blkN ?_ | with_reducible refine post_blkE ?_ | with_reducible refine post_blkF rfl ?_ | with_reducible refine post_blkR ?_
                  | with_reducible refine seg_eval (by simp -dsimp -implicitDefEqProofs [hd, hd2, hvl, hv, hsl, hul, c1, hshx, hmc, hf, fitsRAt]; rfl) ?_
              all_goals first
                | omega
                | exact post_fin rfl rfl ⟨[2], [], rfl, rfl, rfl, rfl⟩
                | trace_state
          · have hu := upTo_end (m := ⟨w, v⟩) (Nat.le_of_not_lt hpl)
            have c1 : decide (posK keyMk w l < l.length) = false := by simp; omega
            simp only at hu
            have hum : (insK keyMk ⟨w, v⟩ l).map avMk = (upTo w ⟨w, v⟩ l l.length).map avMk ++ [AV.agg (mc w v)] := by rw [← hu]; simp [avMk, cMk]
            cases hf : fitsB s v
            · have hp : putF s l ⟨w, v⟩ = (l, 2) := by simp [putF, hr, hh, hi2, hf]
              rw [hp]
              repeat' first
                  | with_reducible refine wp_regionS (seg_eval (by simp -dsimp -implicitDefEqProofs [hd, hd2, hvl, hv, hsl, hul, c1, hshx, hmc, hf, fitsRAt]; rfl) ?_)
                  | with_reducible refine wp_region (seg_eval (by simp -dsimp -implicitDefEqProofs [hd, hd2, hvl, hv, hsl, hul, c1, hshx, hmc, hf, fitsRAt]; rfl) ?_)
                  | with_reducible refine wp_drawsS (seg_eval (by simp -dsimp -implicitDefEqProofs [hd, hd2, hvl, hv, hsl, hul, c1, hshx, hmc, hf, fitsRAt]; rfl) ?_)
                  | with_reducible refine wp_draws (seg_eval (by simp -dsimp -implicitDefEqProofs [hd, hd2, hvl, hv, hsl, hul, c1, hshx, hmc, hf, fitsRAt]; rfl) ?_)
                  | with_reducible refine seg_fin ?_
                  | with_reducible refine seg_pan ?_
                  | with_reducible refine seg_both ?_ ?_
                  | with_reducible refine seg_case (fun x h => ?_) (fun h => ?_)
                  | with_reducible refine seg_gate (fun h => ?_) (fun h => ?_)
                  | with_reducible refine seg_need ?_ ?_
                  | with_reducible refine wp_assoc ?_ | with_reducible refine wp_skipS ?_ | with_reducible refine wp_retS ?_ | with_reducible refine wp_exitS ?_ | with_reducible refine wp_dropS (wp_eqT (by simp -dsimp -implicitDefEqProofs [hd, hd2, hvl, hv, hsl, hul, c1, hshx, hmc, hf, fitsRAt]; rfl) ?_) | with_reducible refine wp_sealS (by simp -dsimp -implicitDefEqProofs [hd, hd2, hvl, hv, hsl, hul, c1, hshx, hmc, hf, fitsRAt]; rfl) ?_ | with_reducible refine wp_seal (by simp -dsimp -implicitDefEqProofs [hd, hd2, hvl, hv, hsl, hul, c1, hshx, hmc, hf, fitsRAt]; rfl) ?_ | with_reducible refine wp_closeS (by simp -dsimp -implicitDefEqProofs [hd, hd2, hvl, hv, hsl, hul, c1, hshx, hmc, hf, fitsRAt]; rfl) ?_ | with_reducible refine wp_close (by simp -dsimp -implicitDefEqProofs [hd, hd2, hvl, hv, hsl, hul, c1, hshx, hmc, hf, fitsRAt]; rfl) ?_ | with_reducible refine wp_conc_out ?_ | with_reducible refine wp_open_out ?_ | with_reducible refine wp_pack_out ?_ | with_reducible refine wp_blockS ?_ | with_reducible refine wp_skip' ?_ | with_reducible refine wp_ret' ?_ | with_reducible refine wp_exit' ?_ | with_reducible refine wp_drop (wp_eqT (by simp -dsimp -implicitDefEqProofs [hd, hd2, hvl, hv, hsl, hul, c1, hshx, hmc, hf, fitsRAt]; rfl) ?_) | with_reducible refine wp_block' ?_
                  | with_reducible refine wp_condVS (by simp -dsimp -implicitDefEqProofs [hd, hd2, hvl, hv, hsl, hul, c1, hshx, hmc, hf, fitsRAt]; rfl) ?_
                  | with_reducible refine wp_condV (by simp -dsimp -implicitDefEqProofs [hd, hd2, hvl, hv, hsl, hul, c1, hshx, hmc, hf, fitsRAt]; rfl) ?_
                  | with_reducible refine cond_t ?_ | with_reducible refine cond_f ?_ | with_reducible refine cond_v (fun h => ?_) (fun h => ?_)
                  | with_reducible refine post_then ?_ | with_reducible refine post_thenE ?_ | with_reducible refine post_thenP ?_ | with_reducible refine post_blkP ?_ | with_reducible refine post_thenR ?_ | with_reducible refine post_blkN ?_ | with_reducible refine post_blkE ?_ | with_reducible refine post_blkF rfl ?_ | with_reducible refine post_blkR ?_
                  | with_reducible refine seg_eval (by simp -dsimp -implicitDefEqProofs [hd, hd2, hvl, hv, hsl, hul, c1, hshx, hmc, hf, fitsRAt]; rfl) ?_
              all_goals first
                | omega
                | exact post_fin rfl rfl ⟨[], [], rfl, rfl, rfl, rfl⟩
                | trace_state
            · have hp : putF s l ⟨w, v⟩ = (insK keyMk ⟨w, v⟩ l, 0) := by simp [putF, hr, hh, hi2, hf]
              rw [hp]
              simp only
              rw [hum]
              repeat' first
                  | with_reducible refine wp_regionS (seg_eval (by simp -dsimp -implicitDefEqProofs [hd, hd2, hvl, hv, hsl, hul, c1, hshx, hmc, hf, fitsRAt]; rfl) ?_)
                  | with_reducible refine wp_region (seg_eval (by simp -dsimp -implicitDefEqProofs [hd, hd2, hvl, hv, hsl, hul, c1, hshx, hmc, hf, fitsRAt]; rfl) ?_)
                  | with_reducible refine wp_drawsS (seg_eval (by simp -dsimp -implicitDefEqProofs [hd, hd2, hvl, hv, hsl, hul, c1, hshx, hmc, hf, fitsRAt]; rfl) ?_)
                  | with_reducible refine wp_draws (seg_eval (by simp -dsimp -implicitDefEqProofs [hd, hd2, hvl, hv, hsl, hul, c1, hshx, hmc, hf, fitsRAt]; rfl) ?_)
                  | with_reducible refine seg_fin ?_
                  | with_reducible refine seg_pan ?_
                  | with_reducible refine seg_both ?_ ?_
                  | with_reducible refine seg_case (fun x h => ?_) (fun h => ?_)
                  | with_reducible refine seg_gate (fun h => ?_) (fun h => ?_)
                  | with_reducible refine seg_need ?_ ?_
                  | with_reducible refine wp_assoc ?_ | with_reducible refine wp_skipS ?_ | with_reducible refine wp_retS ?_ | with_reducible refine wp_exitS ?_ | with_reducible refine wp_dropS (wp_eqT (by simp -dsimp -implicitDefEqProofs [hd, hd2, hvl, hv, hsl, hul, c1, hshx, hmc, hf, fitsRAt]; rfl) ?_) | with_reducible refine wp_sealS (by simp -dsimp -implicitDefEqProofs [hd, hd2, hvl, hv, hsl, hul, c1, hshx, hmc, hf, fitsRAt]; rfl) ?_ | with_reducible refine wp_seal (by simp -dsimp -implicitDefEqProofs [hd, hd2, hvl, hv, hsl, hul, c1, hshx, hmc, hf, fitsRAt]; rfl) ?_ | with_reducible refine wp_closeS (by simp -dsimp -implicitDefEqProofs [hd, hd2, hvl, hv, hsl, hul, c1, hshx, hmc, hf, fitsRAt]; rfl) ?_ | with_reducible refine wp_close (by simp -dsimp -implicitDefEqProofs [hd, hd2, hvl, hv, hsl, hul, c1, hshx, hmc, hf, fitsRAt]; rfl) ?_ | with_reducible refine wp_conc_out ?_ | with_reducible refine wp_open_out ?_ | with_reducible refine wp_pack_out ?_ | with_reducible refine wp_blockS ?_ | with_reducible refine wp_skip' ?_ | with_reducible refine wp_ret' ?_ | with_reducible refine wp_exit' ?_ | with_reducible refine wp_drop (wp_eqT (by simp -dsimp -implicitDefEqProofs [hd, hd2, hvl, hv, hsl, hul, c1, hshx, hmc, hf, fitsRAt]; rfl) ?_) | with_reducible refine wp_block' ?_
                  | with_reducible refine wp_condVS (by simp -dsimp -implicitDefEqProofs [hd, hd2, hvl, hv, hsl, hul, c1, hshx, hmc, hf, fitsRAt]; rfl) ?_
                  | with_reducible refine wp_condV (by simp -dsimp -implicitDefEqProofs [hd, hd2, hvl, hv, hsl, hul, c1, hshx, hmc, hf, fitsRAt]; rfl) ?_
                  | with_reducible refine cond_t ?_ | with_reducible refine cond_f ?_ | with_reducible refine cond_v (fun h => ?_) (fun h => ?_)
                  | with_reducible refine post_then ?_ | with_reducible refine post_thenE ?_ | with_reducible refine post_thenP ?_ | with_reducible refine post_blkP ?_ | with_reducible refine post_thenR ?_ | with_reducible refine post_blkN ?_ | with_reducible refine post_blkE ?_ | with_reducible refine post_blkF rfl ?_ | with_reducible refine post_blkR ?_
                  | with_reducible refine seg_eval (by simp -dsimp -implicitDefEqProofs [hd, hd2, hvl, hv, hsl, hul, c1, hshx, hmc, hf, fitsRAt]; rfl) ?_
              all_goals first
                | omega
                | exact post_fin rfl rfl ⟨[4], [], rfl, rfl, rfl, rfl⟩
                | trace_state
end Go.Proofs.Ytbponegjfccgfaa.Am
