import Derived.Test.YtbhbpahbopjfeaaF14
namespace Go.Proofs.Ytbhbpahbopjfeaa.Am
set_option linter.unusedSimpArgs false
set_option linter.unusedVariables false
open Go Go.Proofs
attribute [local irreducible] wpA

def spTwo : Spec
  | [.fsl 4 es, .fsl 4 fs], [] => (uns un2 es).bind fun l => (uns un2 fs).bind fun m => if (∀ f ∈ l, f.ok = true) ∧ (∀ f ∈ m, f.ok = true) ∧ l.length ≤ 9223372036854775807 ∧ m.length ≤ 9223372036854775807 then some (.ret (.v (.bool true)), []) else none
  | _, _ => none

theorem bv_tail (l : List UInt8) : (bv l).tail = bv l.tail := by cases l <;> rfl
attribute [simp] bv_tail
theorem all_ok {l : List Fld} (h : ∀ f ∈ l, f.ok = true) : l.all Fld.ok = true := List.all_eq_true.2 h
theorem shaped1 (l : List Fld) : (l.map av1).all AV.shaped = true := by simp [AV.shaped, AV.one, Value.oneCell']

set_option maxHeartbeats 8000000 in
theorem packJoin_ok : CallOk Try.prog 7 spTwo := by
  refine ok_7 E14_ok spTwo fun args mem r mem1 h => ?_
  unfold spTwo at h
  split at h
  case h_2 => cases h
  rename_i es fs
  obtain ⟨l, hl, h1⟩ := Option.bind_eq_some_iff.1 h
  obtain ⟨m, hm, h2⟩ := Option.bind_eq_some_iff.1 h1
  clear h h1
  have := uns2_some hl
  subst this
  have := uns2_some hm
  subst this
  clear hl hm
  obtain ⟨⟨ol, om, sl, sm⟩, h3⟩ := if_some h2
  clear h2
  cases h3
  unfold ac_7
  cases fl : fewB l with
  | false =>
    repeat' first
        | with_reducible refine wp_regionS (seg_eval (by simp -dsimp -implicitDefEqProofs [fl]; rfl) ?_)
        | with_reducible refine wp_region (seg_eval (by simp -dsimp -implicitDefEqProofs [fl]; rfl) ?_)
        | with_reducible refine wp_drawsS (seg_eval (by simp -dsimp -implicitDefEqProofs [fl]; rfl) ?_)
        | with_reducible refine wp_draws (seg_eval (by simp -dsimp -implicitDefEqProofs [fl]; rfl) ?_)
        | with_reducible refine seg_fin ?_
        | with_reducible refine seg_pan ?_
        | with_reducible refine seg_both ?_ ?_
        | with_reducible refine seg_case (fun x h => ?_) (fun h => ?_)
        | with_reducible refine seg_gate (fun h => ?_) (fun h => ?_)
        | with_reducible refine seg_need ?_ ?_
        | with_reducible refine wp_assoc ?_ | with_reducible refine wp_skipS ?_ | with_reducible refine wp_retS ?_ | with_reducible refine wp_exitS ?_ | with_reducible refine wp_dropS (wp_eqT (by simp -dsimp -implicitDefEqProofs [fl]; rfl) ?_) | with_reducible refine wp_seal (by simp -dsimp -implicitDefEqProofs [fl]; rfl) ?_ | with_reducible refine wp_blockS ?_ | with_reducible refine wp_skip' ?_ | with_reducible refine wp_ret' ?_ | with_reducible refine wp_exit' ?_ | with_reducible refine wp_drop (wp_eqT (by simp -dsimp -implicitDefEqProofs [fl]; rfl) ?_) | with_reducible refine wp_block' ?_
        | with_reducible refine wp_condVS (by simp -dsimp -implicitDefEqProofs [fl]; rfl) ?_
        | with_reducible refine wp_condV (by simp -dsimp -implicitDefEqProofs [fl]; rfl) ?_
        | with_reducible refine cond_t ?_ | with_reducible refine cond_f ?_ | with_reducible refine cond_v (fun h => ?_) (fun h => ?_)
        | with_reducible refine post_then ?_ | with_reducible refine post_thenE ?_ | with_reducible refine post_thenP ?_ | with_reducible refine post_blkP ?_ | with_reducible refine post_thenR ?_ | with_reducible refine post_blkN ?_ | with_reducible refine post_blkE ?_ | with_reducible refine post_blkF rfl ?_ | with_reducible refine post_blkR ?_
        | with_reducible refine seg_eval (by simp -dsimp -implicitDefEqProofs [fl]; rfl) ?_
    all_goals first
      | omega | exact ⟨ol, by omega⟩ | exact ⟨om, by omega⟩ | exact ⟨olm, by omega⟩
      | exact post_fin rfl rfl ⟨[], [], rfl, rfl, rfl, rfl⟩
      | trace_state
  | true =>
  cases fm : fewB m with
  | false =>
    repeat' first
        | with_reducible refine wp_regionS (seg_eval (by simp -dsimp -implicitDefEqProofs [fl, fm]; rfl) ?_)
        | with_reducible refine wp_region (seg_eval (by simp -dsimp -implicitDefEqProofs [fl, fm]; rfl) ?_)
        | with_reducible refine wp_drawsS (seg_eval (by simp -dsimp -implicitDefEqProofs [fl, fm]; rfl) ?_)
        | with_reducible refine wp_draws (seg_eval (by simp -dsimp -implicitDefEqProofs [fl, fm]; rfl) ?_)
        | with_reducible refine seg_fin ?_
        | with_reducible refine seg_pan ?_
        | with_reducible refine seg_both ?_ ?_
        | with_reducible refine seg_case (fun x h => ?_) (fun h => ?_)
        | with_reducible refine seg_gate (fun h => ?_) (fun h => ?_)
        | with_reducible refine seg_need ?_ ?_
        | with_reducible refine wp_assoc ?_ | with_reducible refine wp_skipS ?_ | with_reducible refine wp_retS ?_ | with_reducible refine wp_exitS ?_ | with_reducible refine wp_dropS (wp_eqT (by simp -dsimp -implicitDefEqProofs [fl, fm]; rfl) ?_) | with_reducible refine wp_seal (by simp -dsimp -implicitDefEqProofs [fl, fm]; rfl) ?_ | with_reducible refine wp_blockS ?_ | with_reducible refine wp_skip' ?_ | with_reducible refine wp_ret' ?_ | with_reducible refine wp_exit' ?_ | with_reducible refine wp_drop (wp_eqT (by simp -dsimp -implicitDefEqProofs [fl, fm]; rfl) ?_) | with_reducible refine wp_block' ?_
        | with_reducible refine wp_condVS (by simp -dsimp -implicitDefEqProofs [fl, fm]; rfl) ?_
        | with_reducible refine wp_condV (by simp -dsimp -implicitDefEqProofs [fl, fm]; rfl) ?_
        | with_reducible refine cond_t ?_ | with_reducible refine cond_f ?_ | with_reducible refine cond_v (fun h => ?_) (fun h => ?_)
        | with_reducible refine post_then ?_ | with_reducible refine post_thenE ?_ | with_reducible refine post_thenP ?_ | with_reducible refine post_blkP ?_ | with_reducible refine post_thenR ?_ | with_reducible refine post_blkN ?_ | with_reducible refine post_blkE ?_ | with_reducible refine post_blkF rfl ?_ | with_reducible refine post_blkR ?_
        | with_reducible refine seg_eval (by simp -dsimp -implicitDefEqProofs [fl, fm]; rfl) ?_
    all_goals first
      | omega | exact ⟨ol, by omega⟩ | exact ⟨om, by omega⟩ | exact ⟨olm, by omega⟩
      | exact post_fin rfl rfl ⟨[], [], rfl, rfl, rfl, rfl⟩
      | trace_state
  | true =>
  have ll := fewB_len fl
  have lm := fewB_len fm
  have al := all_ok ol
  have am := all_ok om
  have alm : (l ++ m).all Fld.ok = true := by rw [List.all_append, al, am]; rfl
  have hma : uns un1 (l.map av1 ++ m.map av1) = some (l ++ m) := by rw [← List.map_append]; exact uns1 _
  have olm : ∀ x, x ∈ l ∨ x ∈ m → x.ok = true := fun x hx => hx.elim (ol x) (om x)
  have alm' : (l.all Fld.ok = true ∧ m.all Fld.ok = true) := ⟨al, am⟩
  have hsh := shaped1 m
  have hlm : (l ++ m).length ≤ 440 := by rw [List.length_append]; omega
  by_cases e1 : encE l = 0
  · by_cases e2 : encE m = 0
    · by_cases e3 : encE (l ++ m) = 0
      · obtain ⟨a1, a2, a3, a4⟩ := encE_zero e1
        obtain ⟨b1, b2, b3, b4⟩ := encE_zero e2
        obtain ⟨c1, c2, c3, c4⟩ := encE_zero e3
        have p1 : enc l = u8 l.length :: flatE l := a4
        have p2 : enc m = u8 m.length :: flatE m := b4
        have p3 : enc (l ++ m) = u8 (l.length + m.length) :: (flatE l ++ flatE m) := by rw [c4, encAll, flatE_append, List.length_append]
        have hcat : ((⟨(flatE l ++ flatE m).toArray⟩ : ByteArray) == ⟨(flatE l).toArray⟩ ++ ⟨(flatE m).toArray⟩) = true := by
          rw [beq_bytes]
          apply ByteArray.ext
          simp
        have hcat' : ((⟨(flatE l).toArray ++ (flatE m).toArray⟩ : ByteArray) == ⟨(flatE l).toArray⟩ ++ ⟨(flatE m).toArray⟩) = true := by
          rw [beq_bytes]
          apply ByteArray.ext
          simp
        rw [List.length_append] at c2
        have hu : (u8 (l.length + m.length)).toNat = l.length + m.length := u8_small (by omega)
        have hw1 : IntKind.wrap .i64 ((l.length : Int) + (m.length : Int)) = (l.length : Int) + (m.length : Int) := IntWalk.i64_in _ (by omega)
        have htl : (flatE l ++ flatE m).take ((flatE l).length + (flatE m).length) = flatE l ++ flatE m := List.take_of_length_le (by simp)
        have hd0 : decide (0 < ((flatE l).length : Int) + ((flatE m).length : Int) + 1) = true := by rw [decide_eq_true_eq]; omega
        have hsz : ByteArray.size ⟨(flatE l).toArray⟩ + ByteArray.size ⟨(flatE m).toArray⟩ ≤ 9223372036854775807 := by
          rw [size_mk, size_mk]
          simp only [encAll, List.length_cons] at a3 b3
          omega
        repeat' first
            | with_reducible refine wp_regionS (seg_eval (by simp -dsimp -implicitDefEqProofs [hd0, fl, fm, al, am, alm, hma, hsh, e1, e2, e3, p1, p2, p3, hcat, hcat', hu, hw1, htl]; rfl) ?_)
            | with_reducible refine wp_region (seg_eval (by simp -dsimp -implicitDefEqProofs [hd0, fl, fm, al, am, alm, hma, hsh, e1, e2, e3, p1, p2, p3, hcat, hcat', hu, hw1, htl]; rfl) ?_)
            | with_reducible refine wp_drawsS (seg_eval (by simp -dsimp -implicitDefEqProofs [hd0, fl, fm, al, am, alm, hma, hsh, e1, e2, e3, p1, p2, p3, hcat, hcat', hu, hw1, htl]; rfl) ?_)
            | with_reducible refine wp_draws (seg_eval (by simp -dsimp -implicitDefEqProofs [hd0, fl, fm, al, am, alm, hma, hsh, e1, e2, e3, p1, p2, p3, hcat, hcat', hu, hw1, htl]; rfl) ?_)
            | with_reducible refine seg_fin ?_
            | with_reducible refine seg_pan ?_
            | with_reducible refine seg_both ?_ ?_
            | with_reducible refine seg_case (fun x h => ?_) (fun h => ?_)
            | with_reducible refine seg_gate (fun h => ?_) (fun h => ?_)
            | with_reducible refine seg_need ?_ ?_
            | with_reducible refine wp_assoc ?_ | with_reducible refine wp_skipS ?_ | with_reducible refine wp_retS ?_ | with_reducible refine wp_exitS ?_ | with_reducible refine wp_dropS (wp_eqT (by simp -dsimp -implicitDefEqProofs [hd0, fl, fm, al, am, alm, hma, hsh, e1, e2, e3, p1, p2, p3, hcat, hcat', hu, hw1, htl]; rfl) ?_) | with_reducible refine wp_seal (by simp -dsimp -implicitDefEqProofs [hd0, fl, fm, al, am, alm, hma, hsh, e1, e2, e3, p1, p2, p3, hcat, hcat', hu, hw1, htl]; rfl) ?_ | with_reducible refine wp_blockS ?_ | with_reducible refine wp_skip' ?_ | with_reducible refine wp_ret' ?_ | with_reducible refine wp_exit' ?_ | with_reducible refine wp_drop (wp_eqT (by simp -dsimp -implicitDefEqProofs [hd0, fl, fm, al, am, alm, hma, hsh, e1, e2, e3, p1, p2, p3, hcat, hcat', hu, hw1, htl]; rfl) ?_) | with_reducible refine wp_block' ?_
            | with_reducible refine wp_condVS (by simp -dsimp -implicitDefEqProofs [hd0, fl, fm, al, am, alm, hma, hsh, e1, e2, e3, p1, p2, p3, hcat, hcat', hu, hw1, htl]; rfl) ?_
            | with_reducible refine wp_condV (by simp -dsimp -implicitDefEqProofs [hd0, fl, fm, al, am, alm, hma, hsh, e1, e2, e3, p1, p2, p3, hcat, hcat', hu, hw1, htl]; rfl) ?_
            | with_reducible refine cond_t ?_ | with_reducible refine cond_f ?_ | with_reducible refine cond_v (fun h => ?_) (fun h => ?_)
            | with_reducible refine post_then ?_ | with_reducible refine post_thenE ?_ | with_reducible refine post_thenP ?_ | with_reducible refine post_blkP ?_ | with_reducible refine post_thenR ?_ | with_reducible refine post_blkN ?_ | with_reducible refine post_blkE ?_ | with_reducible refine post_blkF rfl ?_ | with_reducible refine post_blkR ?_
            | with_reducible refine seg_eval (by simp -dsimp -implicitDefEqProofs [hd0, fl, fm, al, am, alm, hma, hsh, e1, e2, e3, p1, p2, p3, hcat, hcat', hu, hw1, htl]; rfl) ?_
        all_goals first
          | rfl | omega | exact hsz | exact ⟨ol, by omega⟩ | exact ⟨om, by omega⟩ | exact ⟨olm, by omega⟩
          | exact post_fin rfl rfl ⟨[], [], rfl, rfl, rfl, rfl⟩
          | trace_state
      · have b3 : (encE (l ++ m) != 0) = true := by simp [e3]
        repeat' first
            | with_reducible refine wp_regionS (seg_eval (by simp -dsimp -implicitDefEqProofs [fl, fm, al, am, alm, hma, hsh, e1, e2, b3]; rfl) ?_)
            | with_reducible refine wp_region (seg_eval (by simp -dsimp -implicitDefEqProofs [fl, fm, al, am, alm, hma, hsh, e1, e2, b3]; rfl) ?_)
            | with_reducible refine wp_drawsS (seg_eval (by simp -dsimp -implicitDefEqProofs [fl, fm, al, am, alm, hma, hsh, e1, e2, b3]; rfl) ?_)
            | with_reducible refine wp_draws (seg_eval (by simp -dsimp -implicitDefEqProofs [fl, fm, al, am, alm, hma, hsh, e1, e2, b3]; rfl) ?_)
            | with_reducible refine seg_fin ?_
            | with_reducible refine seg_pan ?_
            | with_reducible refine seg_both ?_ ?_
            | with_reducible refine seg_case (fun x h => ?_) (fun h => ?_)
            | with_reducible refine seg_gate (fun h => ?_) (fun h => ?_)
            | with_reducible refine seg_need ?_ ?_
            | with_reducible refine wp_assoc ?_ | with_reducible refine wp_skipS ?_ | with_reducible refine wp_retS ?_ | with_reducible refine wp_exitS ?_ | with_reducible refine wp_dropS (wp_eqT (by simp -dsimp -implicitDefEqProofs [fl, fm, al, am, alm, hma, hsh, e1, e2, b3]; rfl) ?_) | with_reducible refine wp_seal (by simp -dsimp -implicitDefEqProofs [fl, fm, al, am, alm, hma, hsh, e1, e2, b3]; rfl) ?_ | with_reducible refine wp_blockS ?_ | with_reducible refine wp_skip' ?_ | with_reducible refine wp_ret' ?_ | with_reducible refine wp_exit' ?_ | with_reducible refine wp_drop (wp_eqT (by simp -dsimp -implicitDefEqProofs [fl, fm, al, am, alm, hma, hsh, e1, e2, b3]; rfl) ?_) | with_reducible refine wp_block' ?_
            | with_reducible refine wp_condVS (by simp -dsimp -implicitDefEqProofs [fl, fm, al, am, alm, hma, hsh, e1, e2, b3]; rfl) ?_
            | with_reducible refine wp_condV (by simp -dsimp -implicitDefEqProofs [fl, fm, al, am, alm, hma, hsh, e1, e2, b3]; rfl) ?_
            | with_reducible refine cond_t ?_ | with_reducible refine cond_f ?_ | with_reducible refine cond_v (fun h => ?_) (fun h => ?_)
            | with_reducible refine post_then ?_ | with_reducible refine post_thenE ?_ | with_reducible refine post_thenP ?_ | with_reducible refine post_blkP ?_ | with_reducible refine post_thenR ?_ | with_reducible refine post_blkN ?_ | with_reducible refine post_blkE ?_ | with_reducible refine post_blkF rfl ?_ | with_reducible refine post_blkR ?_
            | with_reducible refine seg_eval (by simp -dsimp -implicitDefEqProofs [fl, fm, al, am, alm, hma, hsh, e1, e2, b3]; rfl) ?_
        all_goals first
          | omega | exact ⟨ol, by omega⟩ | exact ⟨om, by omega⟩ | exact ⟨olm, by omega⟩
          | exact post_fin rfl rfl ⟨[], [], rfl, rfl, rfl, rfl⟩
          | trace_state
    · have b2 : (encE m != 0) = true := by simp [e2]
      repeat' first
          | with_reducible refine wp_regionS (seg_eval (by simp -dsimp -implicitDefEqProofs [fl, fm, al, am, alm, hma, hsh, e1, b2]; rfl) ?_)
          | with_reducible refine wp_region (seg_eval (by simp -dsimp -implicitDefEqProofs [fl, fm, al, am, alm, hma, hsh, e1, b2]; rfl) ?_)
          | with_reducible refine wp_drawsS (seg_eval (by simp -dsimp -implicitDefEqProofs [fl, fm, al, am, alm, hma, hsh, e1, b2]; rfl) ?_)
          | with_reducible refine wp_draws (seg_eval (by simp -dsimp -implicitDefEqProofs [fl, fm, al, am, alm, hma, hsh, e1, b2]; rfl) ?_)
          | with_reducible refine seg_fin ?_
          | with_reducible refine seg_pan ?_
          | with_reducible refine seg_both ?_ ?_
          | with_reducible refine seg_case (fun x h => ?_) (fun h => ?_)
          | with_reducible refine seg_gate (fun h => ?_) (fun h => ?_)
          | with_reducible refine seg_need ?_ ?_
          | with_reducible refine wp_assoc ?_ | with_reducible refine wp_skipS ?_ | with_reducible refine wp_retS ?_ | with_reducible refine wp_exitS ?_ | with_reducible refine wp_dropS (wp_eqT (by simp -dsimp -implicitDefEqProofs [fl, fm, al, am, alm, hma, hsh, e1, b2]; rfl) ?_) | with_reducible refine wp_seal (by simp -dsimp -implicitDefEqProofs [fl, fm, al, am, alm, hma, hsh, e1, b2]; rfl) ?_ | with_reducible refine wp_blockS ?_ | with_reducible refine wp_skip' ?_ | with_reducible refine wp_ret' ?_ | with_reducible refine wp_exit' ?_ | with_reducible refine wp_drop (wp_eqT (by simp -dsimp -implicitDefEqProofs [fl, fm, al, am, alm, hma, hsh, e1, b2]; rfl) ?_) | with_reducible refine wp_block' ?_
          | with_reducible refine wp_condVS (by simp -dsimp -implicitDefEqProofs [fl, fm, al, am, alm, hma, hsh, e1, b2]; rfl) ?_
          | with_reducible refine wp_condV (by simp -dsimp -implicitDefEqProofs [fl, fm, al, am, alm, hma, hsh, e1, b2]; rfl) ?_
          | with_reducible refine cond_t ?_ | with_reducible refine cond_f ?_ | with_reducible refine cond_v (fun h => ?_) (fun h => ?_)
          | with_reducible refine post_then ?_ | with_reducible refine post_thenE ?_ | with_reducible refine post_thenP ?_ | with_reducible refine post_blkP ?_ | with_reducible refine post_thenR ?_ | with_reducible refine post_blkN ?_ | with_reducible refine post_blkE ?_ | with_reducible refine post_blkF rfl ?_ | with_reducible refine post_blkR ?_
          | with_reducible refine seg_eval (by simp -dsimp -implicitDefEqProofs [fl, fm, al, am, alm, hma, hsh, e1, b2]; rfl) ?_
      all_goals first
        | omega | exact ⟨ol, by omega⟩ | exact ⟨om, by omega⟩ | exact ⟨olm, by omega⟩
        | exact post_fin rfl rfl ⟨[], [], rfl, rfl, rfl, rfl⟩
        | trace_state
  · have b1 : (encE l != 0) = true := by simp [e1]
    repeat' first
        | with_reducible refine wp_regionS (seg_eval (by simp -dsimp -implicitDefEqProofs [fl, fm, al, am, alm, hma, hsh, b1]; rfl) ?_)
        | with_reducible refine wp_region (seg_eval (by simp -dsimp -implicitDefEqProofs [fl, fm, al, am, alm, hma, hsh, b1]; rfl) ?_)
        | with_reducible refine wp_drawsS (seg_eval (by simp -dsimp -implicitDefEqProofs [fl, fm, al, am, alm, hma, hsh, b1]; rfl) ?_)
        | with_reducible refine wp_draws (seg_eval (by simp -dsimp -implicitDefEqProofs [fl, fm, al, am, alm, hma, hsh, b1]; rfl) ?_)
        | with_reducible refine seg_fin ?_
        | with_reducible refine seg_pan ?_
        | with_reducible refine seg_both ?_ ?_
        | with_reducible refine seg_case (fun x h => ?_) (fun h => ?_)
        | with_reducible refine seg_gate (fun h => ?_) (fun h => ?_)
        | with_reducible refine seg_need ?_ ?_
        | with_reducible refine wp_assoc ?_ | with_reducible refine wp_skipS ?_ | with_reducible refine wp_retS ?_ | with_reducible refine wp_exitS ?_ | with_reducible refine wp_dropS (wp_eqT (by simp -dsimp -implicitDefEqProofs [fl, fm, al, am, alm, hma, hsh, b1]; rfl) ?_) | with_reducible refine wp_seal (by simp -dsimp -implicitDefEqProofs [fl, fm, al, am, alm, hma, hsh, b1]; rfl) ?_ | with_reducible refine wp_blockS ?_ | with_reducible refine wp_skip' ?_ | with_reducible refine wp_ret' ?_ | with_reducible refine wp_exit' ?_ | with_reducible refine wp_drop (wp_eqT (by simp -dsimp -implicitDefEqProofs [fl, fm, al, am, alm, hma, hsh, b1]; rfl) ?_) | with_reducible refine wp_block' ?_
        | with_reducible refine wp_condVS (by simp -dsimp -implicitDefEqProofs [fl, fm, al, am, alm, hma, hsh, b1]; rfl) ?_
        | with_reducible refine wp_condV (by simp -dsimp -implicitDefEqProofs [fl, fm, al, am, alm, hma, hsh, b1]; rfl) ?_
        | with_reducible refine cond_t ?_ | with_reducible refine cond_f ?_ | with_reducible refine cond_v (fun h => ?_) (fun h => ?_)
        | with_reducible refine post_then ?_ | with_reducible refine post_thenE ?_ | with_reducible refine post_thenP ?_ | with_reducible refine post_blkP ?_ | with_reducible refine post_thenR ?_ | with_reducible refine post_blkN ?_ | with_reducible refine post_blkE ?_ | with_reducible refine post_blkF rfl ?_ | with_reducible refine post_blkR ?_
        | with_reducible refine seg_eval (by simp -dsimp -implicitDefEqProofs [fl, fm, al, am, alm, hma, hsh, b1]; rfl) ?_
    all_goals first
      | omega | exact ⟨ol, by omega⟩ | exact ⟨om, by omega⟩ | exact ⟨olm, by omega⟩
      | exact post_fin rfl rfl ⟨[], [], rfl, rfl, rfl, rfl⟩
      | trace_state

def spWhole : Spec
  | [.fsl 4 es, .fsl 4 fs, .v (.int .u16 c)], [] => (uns un2 es).bind fun l => (uns un2 fs).bind fun m => if (∀ f ∈ l, f.ok = true) ∧ (∀ f ∈ m, f.ok = true) ∧ l.length ≤ 9223372036854775807 ∧ m.length ≤ 9223372036854775807 ∧ 0 ≤ c ∧ c < 65536 then some (.ret (.v (.bool true)), []) else none
  | _, _ => none

set_option maxHeartbeats 8000000 in
theorem packWhole_ok : CallOk Try.prog 6 spWhole := by
  refine ok_6 E14_ok spWhole fun args mem r mem1 h => ?_
  unfold spWhole at h
  split at h
  case h_2 => cases h
  rename_i es fs c
  obtain ⟨l, hl, h1⟩ := Option.bind_eq_some_iff.1 h
  obtain ⟨m, hm, h2⟩ := Option.bind_eq_some_iff.1 h1
  clear h h1
  have := uns2_some hl
  subst this
  have := uns2_some hm
  subst this
  clear hl hm
  obtain ⟨⟨ol, om, sl, sm, hc0, hc1⟩, h3⟩ := if_some h2
  clear h2
  cases h3
  obtain ⟨c, rfl⟩ := Int.eq_ofNat_of_zero_le hc0
  unfold ac_6
  cases fl : fewB l with
  | false =>
    repeat' first
        | with_reducible refine wp_regionS (seg_eval (by simp -dsimp -implicitDefEqProofs [fl]; rfl) ?_)
        | with_reducible refine wp_region (seg_eval (by simp -dsimp -implicitDefEqProofs [fl]; rfl) ?_)
        | with_reducible refine wp_drawsS (seg_eval (by simp -dsimp -implicitDefEqProofs [fl]; rfl) ?_)
        | with_reducible refine wp_draws (seg_eval (by simp -dsimp -implicitDefEqProofs [fl]; rfl) ?_)
        | with_reducible refine seg_fin ?_
        | with_reducible refine seg_pan ?_
        | with_reducible refine seg_both ?_ ?_
        | with_reducible refine seg_case (fun x h => ?_) (fun h => ?_)
        | with_reducible refine seg_gate (fun h => ?_) (fun h => ?_)
        | with_reducible refine seg_need ?_ ?_
        | with_reducible refine wp_assoc ?_ | with_reducible refine wp_skipS ?_ | with_reducible refine wp_retS ?_ | with_reducible refine wp_exitS ?_ | with_reducible refine wp_dropS (wp_eqT (by simp -dsimp -implicitDefEqProofs [fl]; rfl) ?_) | with_reducible refine wp_seal (by simp -dsimp -implicitDefEqProofs [fl]; rfl) ?_ | with_reducible refine wp_blockS ?_ | with_reducible refine wp_skip' ?_ | with_reducible refine wp_ret' ?_ | with_reducible refine wp_exit' ?_ | with_reducible refine wp_drop (wp_eqT (by simp -dsimp -implicitDefEqProofs [fl]; rfl) ?_) | with_reducible refine wp_block' ?_
        | with_reducible refine wp_condVS (by simp -dsimp -implicitDefEqProofs [fl]; rfl) ?_
        | with_reducible refine wp_condV (by simp -dsimp -implicitDefEqProofs [fl]; rfl) ?_
        | with_reducible refine cond_t ?_ | with_reducible refine cond_f ?_ | with_reducible refine cond_v (fun h => ?_) (fun h => ?_)
        | with_reducible refine post_then ?_ | with_reducible refine post_thenE ?_ | with_reducible refine post_thenP ?_ | with_reducible refine post_blkP ?_ | with_reducible refine post_thenR ?_ | with_reducible refine post_blkN ?_ | with_reducible refine post_blkE ?_ | with_reducible refine post_blkF rfl ?_ | with_reducible refine post_blkR ?_
        | with_reducible refine seg_eval (by simp -dsimp -implicitDefEqProofs [fl]; rfl) ?_
    all_goals first
      | omega
      | exact post_fin rfl rfl ⟨[], [], rfl, rfl, rfl, rfl⟩
      | trace_state
  | true =>
  cases fm : fewB m with
  | false =>
    repeat' first
        | with_reducible refine wp_regionS (seg_eval (by simp -dsimp -implicitDefEqProofs [fl, fm]; rfl) ?_)
        | with_reducible refine wp_region (seg_eval (by simp -dsimp -implicitDefEqProofs [fl, fm]; rfl) ?_)
        | with_reducible refine wp_drawsS (seg_eval (by simp -dsimp -implicitDefEqProofs [fl, fm]; rfl) ?_)
        | with_reducible refine wp_draws (seg_eval (by simp -dsimp -implicitDefEqProofs [fl, fm]; rfl) ?_)
        | with_reducible refine seg_fin ?_
        | with_reducible refine seg_pan ?_
        | with_reducible refine seg_both ?_ ?_
        | with_reducible refine seg_case (fun x h => ?_) (fun h => ?_)
        | with_reducible refine seg_gate (fun h => ?_) (fun h => ?_)
        | with_reducible refine seg_need ?_ ?_
        | with_reducible refine wp_assoc ?_ | with_reducible refine wp_skipS ?_ | with_reducible refine wp_retS ?_ | with_reducible refine wp_exitS ?_ | with_reducible refine wp_dropS (wp_eqT (by simp -dsimp -implicitDefEqProofs [fl, fm]; rfl) ?_) | with_reducible refine wp_seal (by simp -dsimp -implicitDefEqProofs [fl, fm]; rfl) ?_ | with_reducible refine wp_blockS ?_ | with_reducible refine wp_skip' ?_ | with_reducible refine wp_ret' ?_ | with_reducible refine wp_exit' ?_ | with_reducible refine wp_drop (wp_eqT (by simp -dsimp -implicitDefEqProofs [fl, fm]; rfl) ?_) | with_reducible refine wp_block' ?_
        | with_reducible refine wp_condVS (by simp -dsimp -implicitDefEqProofs [fl, fm]; rfl) ?_
        | with_reducible refine wp_condV (by simp -dsimp -implicitDefEqProofs [fl, fm]; rfl) ?_
        | with_reducible refine cond_t ?_ | with_reducible refine cond_f ?_ | with_reducible refine cond_v (fun h => ?_) (fun h => ?_)
        | with_reducible refine post_then ?_ | with_reducible refine post_thenE ?_ | with_reducible refine post_thenP ?_ | with_reducible refine post_blkP ?_ | with_reducible refine post_thenR ?_ | with_reducible refine post_blkN ?_ | with_reducible refine post_blkE ?_ | with_reducible refine post_blkF rfl ?_ | with_reducible refine post_blkR ?_
        | with_reducible refine seg_eval (by simp -dsimp -implicitDefEqProofs [fl, fm]; rfl) ?_
    all_goals first
      | omega
      | exact post_fin rfl rfl ⟨[], [], rfl, rfl, rfl, rfl⟩
      | trace_state
  | true =>
  have ll := fewB_len fl
  have lm := fewB_len fm
  by_cases e1 : encE l = 0
  · by_cases e2 : encE m = 0
    · obtain ⟨a1, a2, a3, a4⟩ := encE_zero e1
      have hpos : 0 < (enc l).length := by rw [a4]; simp [encAll]
      have hlz : ((enc l).length == 0) = false := by rw [beq_eq_false_iff_ne]; omega
      have hlz' : (((enc l).length : Int) == 0) = false := by rw [beq_eq_false_iff_ne]; omega
      have hl8 : (enc l).length ≤ 8000 := by rw [a4]; exact a3
      have hc64 : IntKind.wrap .i64 (c : Int) = (c : Int) := IntWalk.i64_in _ (by omega)
      have hmod : ((c : Int).tmod ((enc l).length : Int)) = ((c % (enc l).length : Nat) : Int) := rfl
      have hml : c % (enc l).length < (enc l).length := Nat.mod_lt _ hpos
      have d1 : decE ((enc l).take (c % (enc l).length)) = 4 := by simp [decE, dec_take e1 ol hml]
      have d2 : decE (enc l ++ [u8 c]) = 4 := by simp [decE, dec_snoc e1 ol]
      have hsame : ((⟨(enc l).toArray⟩ : ByteArray) == ⟨(enc m).toArray⟩) = sameB l m := by
        rw [Bool.eq_iff_iff, beq_bytes, sameB_iff]
        constructor
        · intro h
          refine enc_inj e1 e2 ol om ?_
          have := congrArg tb h
          rwa [tb_mk, tb_mk] at this
        · rintro rfl; rfl
      have hne : enc l ≠ [] := by intro h; rw [h] at hpos; simp at hpos
      have hm0 : 0 ≤ (c : Int) % ((enc l).length : Int) := Int.emod_nonneg _ (by omega)
      have htn : ((c : Int) % ((enc l).length : Int)).toNat = c % (enc l).length := by rw [← Int.natCast_emod]; rfl
      have hwm : IntKind.wrap .i64 ((c % (enc l).length : Nat) : Int) = ((c % (enc l).length : Nat) : Int) := IntWalk.i64_in _ (by omega)
      repeat' first
          | with_reducible refine wp_regionS (seg_eval (by simp -dsimp -implicitDefEqProofs [fl, fm, e1, e2, hlz, hlz', hc64, hmod, d1, d2, hsame, hne, hm0, htn]; rfl) ?_)
          | with_reducible refine wp_region (seg_eval (by simp -dsimp -implicitDefEqProofs [fl, fm, e1, e2, hlz, hlz', hc64, hmod, d1, d2, hsame, hne, hm0, htn]; rfl) ?_)
          | with_reducible refine wp_drawsS (seg_eval (by simp -dsimp -implicitDefEqProofs [fl, fm, e1, e2, hlz, hlz', hc64, hmod, d1, d2, hsame, hne, hm0, htn]; rfl) ?_)
          | with_reducible refine wp_draws (seg_eval (by simp -dsimp -implicitDefEqProofs [fl, fm, e1, e2, hlz, hlz', hc64, hmod, d1, d2, hsame, hne, hm0, htn]; rfl) ?_)
          | with_reducible refine seg_fin ?_
          | with_reducible refine seg_pan ?_
          | with_reducible refine seg_both ?_ ?_
          | with_reducible refine seg_case (fun x h => ?_) (fun h => ?_)
          | with_reducible refine seg_gate (fun h => ?_) (fun h => ?_)
          | with_reducible refine seg_need ?_ ?_
          | with_reducible refine wp_assoc ?_ | with_reducible refine wp_skipS ?_ | with_reducible refine wp_retS ?_ | with_reducible refine wp_exitS ?_ | with_reducible refine wp_dropS (wp_eqT (by simp -dsimp -implicitDefEqProofs [fl, fm, e1, e2, hlz, hlz', hc64, hmod, d1, d2, hsame, hne, hm0, htn]; rfl) ?_) | with_reducible refine wp_seal (by simp -dsimp -implicitDefEqProofs [fl, fm, e1, e2, hlz, hlz', hc64, hmod, d1, d2, hsame, hne, hm0, htn]; rfl) ?_ | with_reducible refine wp_blockS ?_ | with_reducible refine wp_skip' ?_ | with_reducible refine wp_ret' ?_ | with_reducible refine wp_exit' ?_ | with_reducible refine wp_drop (wp_eqT (by simp -dsimp -implicitDefEqProofs [fl, fm, e1, e2, hlz, hlz', hc64, hmod, d1, d2, hsame, hne, hm0, htn]; rfl) ?_) | with_reducible refine wp_block' ?_
          | with_reducible refine wp_condVS (by simp -dsimp -implicitDefEqProofs [fl, fm, e1, e2, hlz, hlz', hc64, hmod, d1, d2, hsame, hne, hm0, htn]; rfl) ?_
          | with_reducible refine wp_condV (by simp -dsimp -implicitDefEqProofs [fl, fm, e1, e2, hlz, hlz', hc64, hmod, d1, d2, hsame, hne, hm0, htn]; rfl) ?_
          | with_reducible refine cond_t ?_ | with_reducible refine cond_f ?_ | with_reducible refine cond_v (fun h => ?_) (fun h => ?_)
          | with_reducible refine post_then ?_ | with_reducible refine post_thenE ?_ | with_reducible refine post_thenP ?_ | with_reducible refine post_blkP ?_ | with_reducible refine post_thenR ?_ | with_reducible refine post_blkN ?_ | with_reducible refine post_blkE ?_ | with_reducible refine post_blkF rfl ?_ | with_reducible refine post_blkR ?_
          | with_reducible refine seg_eval (by simp -dsimp -implicitDefEqProofs [fl, fm, e1, e2, hlz, hlz', hc64, hmod, d1, d2, hsame, hne, hm0, htn]; rfl) ?_
      all_goals first
        | rfl | omega | exact ⟨ol, by omega⟩ | exact ⟨om, by omega⟩
        | exact post_fin rfl rfl ⟨[], [], rfl, rfl, rfl, rfl⟩
        | trace_state
    · have b2 : (encE m != 0) = true := by simp [e2]
      obtain ⟨a1, a2, a3, a4⟩ := encE_zero e1
      have hpos : 0 < (enc l).length := by rw [a4]; simp [encAll]
      have hd0 : decide (0 < ((enc l).length : Int)) = true := by rw [decide_eq_true_eq]; omega
      have hd0' : decide (0 < (enc l).length) = true := by rw [decide_eq_true_eq]; omega
      repeat' first
          | with_reducible refine wp_regionS (seg_eval (by simp -dsimp -implicitDefEqProofs [fl, fm, e1, b2, hd0, hd0']; rfl) ?_)
          | with_reducible refine wp_region (seg_eval (by simp -dsimp -implicitDefEqProofs [fl, fm, e1, b2, hd0, hd0']; rfl) ?_)
          | with_reducible refine wp_drawsS (seg_eval (by simp -dsimp -implicitDefEqProofs [fl, fm, e1, b2, hd0, hd0']; rfl) ?_)
          | with_reducible refine wp_draws (seg_eval (by simp -dsimp -implicitDefEqProofs [fl, fm, e1, b2, hd0, hd0']; rfl) ?_)
          | with_reducible refine seg_fin ?_
          | with_reducible refine seg_pan ?_
          | with_reducible refine seg_both ?_ ?_
          | with_reducible refine seg_case (fun x h => ?_) (fun h => ?_)
          | with_reducible refine seg_gate (fun h => ?_) (fun h => ?_)
          | with_reducible refine seg_need ?_ ?_
          | with_reducible refine wp_assoc ?_ | with_reducible refine wp_skipS ?_ | with_reducible refine wp_retS ?_ | with_reducible refine wp_exitS ?_ | with_reducible refine wp_dropS (wp_eqT (by simp -dsimp -implicitDefEqProofs [fl, fm, e1, b2, hd0, hd0']; rfl) ?_) | with_reducible refine wp_seal (by simp -dsimp -implicitDefEqProofs [fl, fm, e1, b2, hd0, hd0']; rfl) ?_ | with_reducible refine wp_blockS ?_ | with_reducible refine wp_skip' ?_ | with_reducible refine wp_ret' ?_ | with_reducible refine wp_exit' ?_ | with_reducible refine wp_drop (wp_eqT (by simp -dsimp -implicitDefEqProofs [fl, fm, e1, b2, hd0, hd0']; rfl) ?_) | with_reducible refine wp_block' ?_
          | with_reducible refine wp_condVS (by simp -dsimp -implicitDefEqProofs [fl, fm, e1, b2, hd0, hd0']; rfl) ?_
          | with_reducible refine wp_condV (by simp -dsimp -implicitDefEqProofs [fl, fm, e1, b2, hd0, hd0']; rfl) ?_
          | with_reducible refine cond_t ?_ | with_reducible refine cond_f ?_ | with_reducible refine cond_v (fun h => ?_) (fun h => ?_)
          | with_reducible refine post_then ?_ | with_reducible refine post_thenE ?_ | with_reducible refine post_thenP ?_ | with_reducible refine post_blkP ?_ | with_reducible refine post_thenR ?_ | with_reducible refine post_blkN ?_ | with_reducible refine post_blkE ?_ | with_reducible refine post_blkF rfl ?_ | with_reducible refine post_blkR ?_
          | with_reducible refine seg_eval (by simp -dsimp -implicitDefEqProofs [fl, fm, e1, b2, hd0, hd0']; rfl) ?_
      all_goals first
        | rfl | omega | exact ⟨ol, by omega⟩ | exact ⟨om, by omega⟩
        | exact post_fin rfl rfl ⟨[], [], rfl, rfl, rfl, rfl⟩
        | trace_state
  · have b1 : (encE l != 0) = true := by simp [e1]
    repeat' first
        | with_reducible refine wp_regionS (seg_eval (by simp -dsimp -implicitDefEqProofs [fl, fm, b1]; rfl) ?_)
        | with_reducible refine wp_region (seg_eval (by simp -dsimp -implicitDefEqProofs [fl, fm, b1]; rfl) ?_)
        | with_reducible refine wp_drawsS (seg_eval (by simp -dsimp -implicitDefEqProofs [fl, fm, b1]; rfl) ?_)
        | with_reducible refine wp_draws (seg_eval (by simp -dsimp -implicitDefEqProofs [fl, fm, b1]; rfl) ?_)
        | with_reducible refine seg_fin ?_
        | with_reducible refine seg_pan ?_
        | with_reducible refine seg_both ?_ ?_
        | with_reducible refine seg_case (fun x h => ?_) (fun h => ?_)
        | with_reducible refine seg_gate (fun h => ?_) (fun h => ?_)
        | with_reducible refine seg_need ?_ ?_
        | with_reducible refine wp_assoc ?_ | with_reducible refine wp_skipS ?_ | with_reducible refine wp_retS ?_ | with_reducible refine wp_exitS ?_ | with_reducible refine wp_dropS (wp_eqT (by simp -dsimp -implicitDefEqProofs [fl, fm, b1]; rfl) ?_) | with_reducible refine wp_seal (by simp -dsimp -implicitDefEqProofs [fl, fm, b1]; rfl) ?_ | with_reducible refine wp_blockS ?_ | with_reducible refine wp_skip' ?_ | with_reducible refine wp_ret' ?_ | with_reducible refine wp_exit' ?_ | with_reducible refine wp_drop (wp_eqT (by simp -dsimp -implicitDefEqProofs [fl, fm, b1]; rfl) ?_) | with_reducible refine wp_block' ?_
        | with_reducible refine wp_condVS (by simp -dsimp -implicitDefEqProofs [fl, fm, b1]; rfl) ?_
        | with_reducible refine wp_condV (by simp -dsimp -implicitDefEqProofs [fl, fm, b1]; rfl) ?_
        | with_reducible refine cond_t ?_ | with_reducible refine cond_f ?_ | with_reducible refine cond_v (fun h => ?_) (fun h => ?_)
        | with_reducible refine post_then ?_ | with_reducible refine post_thenE ?_ | with_reducible refine post_thenP ?_ | with_reducible refine post_blkP ?_ | with_reducible refine post_thenR ?_ | with_reducible refine post_blkN ?_ | with_reducible refine post_blkE ?_ | with_reducible refine post_blkF rfl ?_ | with_reducible refine post_blkR ?_
        | with_reducible refine seg_eval (by simp -dsimp -implicitDefEqProofs [fl, fm, b1]; rfl) ?_
    all_goals first
      | rfl | omega | exact ⟨ol, by omega⟩ | exact ⟨om, by omega⟩
      | exact post_fin rfl rfl ⟨[], [], rfl, rfl, rfl, rfl⟩
      | trace_state

def spBack : Spec
  | [.fsl 4 es, .fsl 1 bs], [] => (uns un2 es).bind fun l => (inB bs).bind fun b => if (∀ f ∈ l, f.ok = true) ∧ l.length ≤ 9223372036854775807 then some (.ret (.v (.bool true)), []) else none
  | _, _ => none

set_option maxHeartbeats 8000000 in
theorem packBack_ok : CallOk Try.prog 5 spBack := by
  refine ok_5 E14_ok spBack fun args mem r mem1 h => ?_
  unfold spBack at h
  split at h
  case h_2 => cases h
  rename_i es bs
  obtain ⟨l, hl, h1⟩ := Option.bind_eq_some_iff.1 h
  obtain ⟨b, hb, h2⟩ := Option.bind_eq_some_iff.1 h1
  clear h h1
  have := uns2_some hl
  subst this
  have := inB_some bs b hb
  subst this
  clear hl hb
  obtain ⟨⟨ol, sl⟩, h3⟩ := if_some h2
  clear h2
  cases h3
  unfold ac_5
  cases fl : fewB l with
  | false =>
    repeat' first
        | with_reducible refine wp_regionS (seg_eval (by simp -dsimp -implicitDefEqProofs [fl]; rfl) ?_)
        | with_reducible refine wp_region (seg_eval (by simp -dsimp -implicitDefEqProofs [fl]; rfl) ?_)
        | with_reducible refine wp_drawsS (seg_eval (by simp -dsimp -implicitDefEqProofs [fl]; rfl) ?_)
        | with_reducible refine wp_draws (seg_eval (by simp -dsimp -implicitDefEqProofs [fl]; rfl) ?_)
        | with_reducible refine seg_fin ?_
        | with_reducible refine seg_pan ?_
        | with_reducible refine seg_both ?_ ?_
        | with_reducible refine seg_case (fun x h => ?_) (fun h => ?_)
        | with_reducible refine seg_gate (fun h => ?_) (fun h => ?_)
        | with_reducible refine seg_need ?_ ?_
        | with_reducible refine wp_assoc ?_ | with_reducible refine wp_skipS ?_ | with_reducible refine wp_retS ?_ | with_reducible refine wp_exitS ?_ | with_reducible refine wp_dropS (wp_eqT (by simp -dsimp -implicitDefEqProofs [fl]; rfl) ?_) | with_reducible refine wp_seal (by simp -dsimp -implicitDefEqProofs [fl]; rfl) ?_ | with_reducible refine wp_blockS ?_ | with_reducible refine wp_skip' ?_ | with_reducible refine wp_ret' ?_ | with_reducible refine wp_exit' ?_ | with_reducible refine wp_drop (wp_eqT (by simp -dsimp -implicitDefEqProofs [fl]; rfl) ?_) | with_reducible refine wp_block' ?_
        | with_reducible refine wp_condVS (by simp -dsimp -implicitDefEqProofs [fl]; rfl) ?_
        | with_reducible refine wp_condV (by simp -dsimp -implicitDefEqProofs [fl]; rfl) ?_
        | with_reducible refine cond_t ?_ | with_reducible refine cond_f ?_ | with_reducible refine cond_v (fun h => ?_) (fun h => ?_)
        | with_reducible refine post_then ?_ | with_reducible refine post_thenE ?_ | with_reducible refine post_thenP ?_ | with_reducible refine post_blkP ?_ | with_reducible refine post_thenR ?_ | with_reducible refine post_blkN ?_ | with_reducible refine post_blkE ?_ | with_reducible refine post_blkF rfl ?_ | with_reducible refine post_blkR ?_
        | with_reducible refine seg_eval (by simp -dsimp -implicitDefEqProofs [fl]; rfl) ?_
    all_goals first
      | omega
      | exact post_fin rfl rfl ⟨[], [], rfl, rfl, rfl, rfl⟩
      | trace_state
  | true =>
  have ll := fewB_len fl
  have hsl : sameB l l = true := (sameB_iff l l).2 rfl
  have hfin : dec b = none ∧ decE b = 4 ∨ (decE b = 0 ∧ (∀ f ∈ decL b, f.ok = true) ∧ (decL b).length ≤ 200 ∧ encE (decL b) = 0 ∧ enc (decL b) = b) := by
    cases hd : dec b with
    | none => left; simp [decE, hd]
    | some m =>
      right
      obtain ⟨h1, h2, h3⟩ := enc_dec hd
      have := encE_zero h1
      have hL : decL b = m := by simp [decL, hd]
      rw [hL]
      exact ⟨by simp [decE, hd], h3, this.2.1, h1, h2⟩
  have hbb : ((⟨b.toArray⟩ : ByteArray) != ⟨b.toArray⟩) = false := by rw [bne, (beq_bytes _ _).2 rfl]; rfl
  by_cases e1 : encE l = 0
  · have hde := dec_enc e1 ol
    have d0 : decE (enc l) = 0 := by simp [decE, hde]
    have dl : decL (enc l) = l := by simp [decL, hde]
    rcases hfin with ⟨_, g4⟩ | ⟨g1, g2, g3, g4, g5⟩
    · repeat' first
          | with_reducible refine wp_regionS (seg_eval (by simp -dsimp -implicitDefEqProofs [fl, e1, d0, dl, hsl, g4]; rfl) ?_)
          | with_reducible refine wp_region (seg_eval (by simp -dsimp -implicitDefEqProofs [fl, e1, d0, dl, hsl, g4]; rfl) ?_)
          | with_reducible refine wp_drawsS (seg_eval (by simp -dsimp -implicitDefEqProofs [fl, e1, d0, dl, hsl, g4]; rfl) ?_)
          | with_reducible refine wp_draws (seg_eval (by simp -dsimp -implicitDefEqProofs [fl, e1, d0, dl, hsl, g4]; rfl) ?_)
          | with_reducible refine seg_fin ?_
          | with_reducible refine seg_pan ?_
          | with_reducible refine seg_both ?_ ?_
          | with_reducible refine seg_case (fun x h => ?_) (fun h => ?_)
          | with_reducible refine seg_gate (fun h => ?_) (fun h => ?_)
          | with_reducible refine seg_need ?_ ?_
          | with_reducible refine wp_assoc ?_ | with_reducible refine wp_skipS ?_ | with_reducible refine wp_retS ?_ | with_reducible refine wp_exitS ?_ | with_reducible refine wp_dropS (wp_eqT (by simp -dsimp -implicitDefEqProofs [fl, e1, d0, dl, hsl, g4]; rfl) ?_) | with_reducible refine wp_seal (by simp -dsimp -implicitDefEqProofs [fl, e1, d0, dl, hsl, g4]; rfl) ?_ | with_reducible refine wp_blockS ?_ | with_reducible refine wp_skip' ?_ | with_reducible refine wp_ret' ?_ | with_reducible refine wp_exit' ?_ | with_reducible refine wp_drop (wp_eqT (by simp -dsimp -implicitDefEqProofs [fl, e1, d0, dl, hsl, g4]; rfl) ?_) | with_reducible refine wp_block' ?_
          | with_reducible refine wp_condVS (by simp -dsimp -implicitDefEqProofs [fl, e1, d0, dl, hsl, g4]; rfl) ?_
          | with_reducible refine wp_condV (by simp -dsimp -implicitDefEqProofs [fl, e1, d0, dl, hsl, g4]; rfl) ?_
          | with_reducible refine cond_t ?_ | with_reducible refine cond_f ?_ | with_reducible refine cond_v (fun h => ?_) (fun h => ?_)
          | with_reducible refine post_then ?_ | with_reducible refine post_thenE ?_ | with_reducible refine post_thenP ?_ | with_reducible refine post_blkP ?_ | with_reducible refine post_thenR ?_ | with_reducible refine post_blkN ?_ | with_reducible refine post_blkE ?_ | with_reducible refine post_blkF rfl ?_ | with_reducible refine post_blkR ?_
          | with_reducible refine seg_eval (by simp -dsimp -implicitDefEqProofs [fl, e1, d0, dl, hsl, g4]; rfl) ?_
      all_goals first
        | rfl | omega | exact ⟨ol, by omega⟩
        | exact post_fin rfl rfl ⟨[], [], rfl, rfl, rfl, rfl⟩
        | trace_state
    · repeat' first
          | with_reducible refine wp_regionS (seg_eval (by simp -dsimp -implicitDefEqProofs [fl, e1, d0, dl, hsl, g1, g4, g5, hbb]; rfl) ?_)
          | with_reducible refine wp_region (seg_eval (by simp -dsimp -implicitDefEqProofs [fl, e1, d0, dl, hsl, g1, g4, g5, hbb]; rfl) ?_)
          | with_reducible refine wp_drawsS (seg_eval (by simp -dsimp -implicitDefEqProofs [fl, e1, d0, dl, hsl, g1, g4, g5, hbb]; rfl) ?_)
          | with_reducible refine wp_draws (seg_eval (by simp -dsimp -implicitDefEqProofs [fl, e1, d0, dl, hsl, g1, g4, g5, hbb]; rfl) ?_)
          | with_reducible refine seg_fin ?_
          | with_reducible refine seg_pan ?_
          | with_reducible refine seg_both ?_ ?_
          | with_reducible refine seg_case (fun x h => ?_) (fun h => ?_)
          | with_reducible refine seg_gate (fun h => ?_) (fun h => ?_)
          | with_reducible refine seg_need ?_ ?_
          | with_reducible refine wp_assoc ?_ | with_reducible refine wp_skipS ?_ | with_reducible refine wp_retS ?_ | with_reducible refine wp_exitS ?_ | with_reducible refine wp_dropS (wp_eqT (by simp -dsimp -implicitDefEqProofs [fl, e1, d0, dl, hsl, g1, g4, g5, hbb]; rfl) ?_) | with_reducible refine wp_seal (by simp -dsimp -implicitDefEqProofs [fl, e1, d0, dl, hsl, g1, g4, g5, hbb]; rfl) ?_ | with_reducible refine wp_blockS ?_ | with_reducible refine wp_skip' ?_ | with_reducible refine wp_ret' ?_ | with_reducible refine wp_exit' ?_ | with_reducible refine wp_drop (wp_eqT (by simp -dsimp -implicitDefEqProofs [fl, e1, d0, dl, hsl, g1, g4, g5, hbb]; rfl) ?_) | with_reducible refine wp_block' ?_
          | with_reducible refine wp_condVS (by simp -dsimp -implicitDefEqProofs [fl, e1, d0, dl, hsl, g1, g4, g5, hbb]; rfl) ?_
          | with_reducible refine wp_condV (by simp -dsimp -implicitDefEqProofs [fl, e1, d0, dl, hsl, g1, g4, g5, hbb]; rfl) ?_
          | with_reducible refine cond_t ?_ | with_reducible refine cond_f ?_ | with_reducible refine cond_v (fun h => ?_) (fun h => ?_)
          | with_reducible refine post_then ?_ | with_reducible refine post_thenE ?_ | with_reducible refine post_thenP ?_ | with_reducible refine post_blkP ?_ | with_reducible refine post_thenR ?_ | with_reducible refine post_blkN ?_ | with_reducible refine post_blkE ?_ | with_reducible refine post_blkF rfl ?_ | with_reducible refine post_blkR ?_
          | with_reducible refine seg_eval (by simp -dsimp -implicitDefEqProofs [fl, e1, d0, dl, hsl, g1, g4, g5, hbb]; rfl) ?_
      all_goals first
        | rfl | omega | exact ⟨ol, by omega⟩ | exact ⟨g2, by omega⟩
        | exact post_fin rfl rfl ⟨[], [], rfl, rfl, rfl, rfl⟩
        | trace_state
  · have b1 : (encE l == 0) = false := by simp [e1]
    rcases hfin with ⟨_, g4⟩ | ⟨g1, g2, g3, g4, g5⟩
    · repeat' first
          | with_reducible refine wp_regionS (seg_eval (by simp -dsimp -implicitDefEqProofs [fl, b1, g4]; rfl) ?_)
          | with_reducible refine wp_region (seg_eval (by simp -dsimp -implicitDefEqProofs [fl, b1, g4]; rfl) ?_)
          | with_reducible refine wp_drawsS (seg_eval (by simp -dsimp -implicitDefEqProofs [fl, b1, g4]; rfl) ?_)
          | with_reducible refine wp_draws (seg_eval (by simp -dsimp -implicitDefEqProofs [fl, b1, g4]; rfl) ?_)
          | with_reducible refine seg_fin ?_
          | with_reducible refine seg_pan ?_
          | with_reducible refine seg_both ?_ ?_
          | with_reducible refine seg_case (fun x h => ?_) (fun h => ?_)
          | with_reducible refine seg_gate (fun h => ?_) (fun h => ?_)
          | with_reducible refine seg_need ?_ ?_
          | with_reducible refine wp_assoc ?_ | with_reducible refine wp_skipS ?_ | with_reducible refine wp_retS ?_ | with_reducible refine wp_exitS ?_ | with_reducible refine wp_dropS (wp_eqT (by simp -dsimp -implicitDefEqProofs [fl, b1, g4]; rfl) ?_) | with_reducible refine wp_seal (by simp -dsimp -implicitDefEqProofs [fl, b1, g4]; rfl) ?_ | with_reducible refine wp_blockS ?_ | with_reducible refine wp_skip' ?_ | with_reducible refine wp_ret' ?_ | with_reducible refine wp_exit' ?_ | with_reducible refine wp_drop (wp_eqT (by simp -dsimp -implicitDefEqProofs [fl, b1, g4]; rfl) ?_) | with_reducible refine wp_block' ?_
          | with_reducible refine wp_condVS (by simp -dsimp -implicitDefEqProofs [fl, b1, g4]; rfl) ?_
          | with_reducible refine wp_condV (by simp -dsimp -implicitDefEqProofs [fl, b1, g4]; rfl) ?_
          | with_reducible refine cond_t ?_ | with_reducible refine cond_f ?_ | with_reducible refine cond_v (fun h => ?_) (fun h => ?_)
          | with_reducible refine post_then ?_ | with_reducible refine post_thenE ?_ | with_reducible refine post_thenP ?_ | with_reducible refine post_blkP ?_ | with_reducible refine post_thenR ?_ | with_reducible refine post_blkN ?_ | with_reducible refine post_blkE ?_ | with_reducible refine post_blkF rfl ?_ | with_reducible refine post_blkR ?_
          | with_reducible refine seg_eval (by simp -dsimp -implicitDefEqProofs [fl, b1, g4]; rfl) ?_
      all_goals first
        | rfl | omega | exact ⟨ol, by omega⟩
        | exact post_fin rfl rfl ⟨[], [], rfl, rfl, rfl, rfl⟩
        | trace_state
    · repeat' first
          | with_reducible refine wp_regionS (seg_eval (by simp -dsimp -implicitDefEqProofs [fl, b1, g1, g4, g5, hbb]; rfl) ?_)
          | with_reducible refine wp_region (seg_eval (by simp -dsimp -implicitDefEqProofs [fl, b1, g1, g4, g5, hbb]; rfl) ?_)
          | with_reducible refine wp_drawsS (seg_eval (by simp -dsimp -implicitDefEqProofs [fl, b1, g1, g4, g5, hbb]; rfl) ?_)
          | with_reducible refine wp_draws (seg_eval (by simp -dsimp -implicitDefEqProofs [fl, b1, g1, g4, g5, hbb]; rfl) ?_)
          | with_reducible refine seg_fin ?_
          | with_reducible refine seg_pan ?_
          | with_reducible refine seg_both ?_ ?_
          | with_reducible refine seg_case (fun x h => ?_) (fun h => ?_)
          | with_reducible refine seg_gate (fun h => ?_) (fun h => ?_)
          | with_reducible refine seg_need ?_ ?_
          | with_reducible refine wp_assoc ?_ | with_reducible refine wp_skipS ?_ | with_reducible refine wp_retS ?_ | with_reducible refine wp_exitS ?_ | with_reducible refine wp_dropS (wp_eqT (by simp -dsimp -implicitDefEqProofs [fl, b1, g1, g4, g5, hbb]; rfl) ?_) | with_reducible refine wp_seal (by simp -dsimp -implicitDefEqProofs [fl, b1, g1, g4, g5, hbb]; rfl) ?_ | with_reducible refine wp_blockS ?_ | with_reducible refine wp_skip' ?_ | with_reducible refine wp_ret' ?_ | with_reducible refine wp_exit' ?_ | with_reducible refine wp_drop (wp_eqT (by simp -dsimp -implicitDefEqProofs [fl, b1, g1, g4, g5, hbb]; rfl) ?_) | with_reducible refine wp_block' ?_
          | with_reducible refine wp_condVS (by simp -dsimp -implicitDefEqProofs [fl, b1, g1, g4, g5, hbb]; rfl) ?_
          | with_reducible refine wp_condV (by simp -dsimp -implicitDefEqProofs [fl, b1, g1, g4, g5, hbb]; rfl) ?_
          | with_reducible refine cond_t ?_ | with_reducible refine cond_f ?_ | with_reducible refine cond_v (fun h => ?_) (fun h => ?_)
          | with_reducible refine post_then ?_ | with_reducible refine post_thenE ?_ | with_reducible refine post_thenP ?_ | with_reducible refine post_blkP ?_ | with_reducible refine post_thenR ?_ | with_reducible refine post_blkN ?_ | with_reducible refine post_blkE ?_ | with_reducible refine post_blkF rfl ?_ | with_reducible refine post_blkR ?_
          | with_reducible refine seg_eval (by simp -dsimp -implicitDefEqProofs [fl, b1, g1, g4, g5, hbb]; rfl) ?_
      all_goals first
        | rfl | omega | exact ⟨ol, by omega⟩ | exact ⟨g2, by omega⟩
        | exact post_fin rfl rfl ⟨[], [], rfl, rfl, rfl, rfl⟩
        | trace_state
end Go.Proofs.Ytbhbpahbopjfeaa.Am
