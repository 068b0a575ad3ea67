/-
  ONE ELEMENT TAKEN OUT of a slice of the call's own.
-/
import Derived.Test.YtajpaagbfmjacaaGreatDoorZCodeD
namespace Go.Proofs.YtajpaagbfmjacaaGreatDoor.Am
set_option linter.unusedSimpArgs false
set_option linter.unusedVariables false
open Go Go.Proofs
attribute [local irreducible] wpA

def spDel : Spec
  | [.osl 0, .v (.int .i64 i), .v (.int .i64 j)], [.arr t s es] =>
    if t = 250 ∧ s = 7 ∧ 0 ≤ i ∧ j = i + 1 ∧ i.toNat < es.length ∧ es.all AV.shaped = true ∧ es.length ≤ 100000000 then
      some (.ret (.osl 1), [.gone, .arr 250 7 (es.take i.toNat ++ es.drop (i.toNat + 1))]) else none
  | _, _ => none
set_option maxHeartbeats 8000000 in
theorem del_ok : CallOk Tryz.prog 168 spDel := by
  refine ok_168 (Env.none_ok _) spDel fun args mem r mem1 h => ?_
  unfold spDel at h
  split at h
  case h_2 => cases h
  rename_i i j t s es
  obtain ⟨⟨rfl, rfl, h0, rfl, hi, hsh, hl⟩, h2⟩ := if_some h
  cases h2
  clear h
  obtain ⟨i, rfl⟩ := Int.eq_ofNat_of_zero_le h0
  simp only [Int.toNat_natCast] at hi ⊢
  unfold ac_168
  repeat' with_reducible first
  | refine stp ?_ | refine seg_both ?_ ?_ | refine seg_case (fun x h => ?_) (fun h => ?_) | refine seg_gate (fun h => ?_) (fun h => ?_) | refine seg_need ?_ ?_ | refine cond_v (fun h => ?_) (fun h => ?_)
  | refine seg_eval (by simp -dsimp -implicitDefEqProofs; rfl) ?_
  refine wp_open_at (by rfl) (by rfl) (fun k hk => ?_) (fun hes => ?_)
  · generalize List.replicate k _ = G
    have hne : ((i : Int) == (i : Int) + 1) = false := by rw [beq_eq_false_iff_ne]; omega
    have n1 : ((i : Int) + 1).toNat = i + 1 := by omega
    have hi1 : i + 1 ≤ es.length := by omega
    have hi0 : i ≤ es.length := by omega
    have b1 : (0 : Int) ≤ (i : Int) + 1 := by omega
    have b3 : ((i : Int) + 1 < 0) = False := by simp; omega
    have t1 : (es ++ G).take es.length = es := List.take_left' rfl
    have d1 : ((es ++ G).drop (i + 1)).take (es.length - (i + 1)) = es.drop (i + 1) := by
      rw [List.drop_append_of_le_length (by omega), List.take_append_of_le_length (by simp), List.take_of_length_le (by simp)]
    obtain ⟨p, hp⟩ : ∃ p, es.length = p + 1 := ⟨es.length - 1, by omega⟩
    have e1 : i + (es.length - (i + 1)) = p := by omega
    obtain ⟨D, hD⟩ : ∃ D, D = (es ++ G).drop p := ⟨_, rfl⟩
    have hDl : D.length = 1 + G.length := by rw [hD]; simp; omega
    replace hD := hD.symm
    have tk : (es ++ G).take i = es.take i := List.take_append_of_le_length hi0
    have mn : min p (i + (es.length - (i + 1) + D.length)) = p := by omega
    obtain ⟨K, hK⟩ : ∃ K, K = es.take i ++ es.drop (i + 1) := ⟨_, rfl⟩
    have lK : K.length = p := by rw [hK]; simp; omega
    have tp : (es.take i ++ (es.drop (i + 1) ++ D)).take p = K := by
      rw [← List.append_assoc, ← hK, ← lK]; exact List.take_left' rfl
    have tK : ∀ Y : List AV, (K ++ Y).take p = K := fun Y => by rw [← lK]; exact List.take_left' rfl
    rw [← hK]
    repeat' first
        | with_reducible refine wp_regionS (seg_eval (by simp -dsimp -implicitDefEqProofs [hne, n1, hi1, hi0, b1, b3, t1, d1, e1, hD, tk, hsh, mn, tp, lK, tK]; rfl) ?_)
        | with_reducible refine wp_region (seg_eval (by simp -dsimp -implicitDefEqProofs [hne, n1, hi1, hi0, b1, b3, t1, d1, e1, hD, tk, hsh, mn, tp, lK, tK]; rfl) ?_)
        | with_reducible refine wp_drawsS (seg_eval (by simp -dsimp -implicitDefEqProofs [hne, n1, hi1, hi0, b1, b3, t1, d1, e1, hD, tk, hsh, mn, tp, lK, tK]; rfl) ?_)
        | with_reducible refine wp_draws (seg_eval (by simp -dsimp -implicitDefEqProofs [hne, n1, hi1, hi0, b1, b3, t1, d1, e1, hD, tk, hsh, mn, tp, lK, tK]; rfl) ?_)
        | with_reducible refine seg_fin ?_
        | with_reducible refine seg_pan ?_
        | with_reducible refine seg_both ?_ ?_
        | with_reducible refine seg_case (fun x h => ?_) (fun h => ?_)
        | with_reducible refine seg_gate (fun h => ?_) (fun h => ?_)
        | with_reducible refine seg_need ?_ ?_
        | with_reducible refine wp_assoc ?_ | with_reducible refine wp_skipS ?_ | with_reducible refine wp_retS ?_ | with_reducible refine wp_exitS ?_ | with_reducible refine wp_dropS (wp_eqT (by simp -dsimp -implicitDefEqProofs [hne, n1, hi1, hi0, b1, b3, t1, d1, e1, hD, tk, hsh, mn, tp, lK, tK]; rfl) ?_) | with_reducible refine wp_sealS (by simp -dsimp -implicitDefEqProofs [hne, n1, hi1, hi0, b1, b3, t1, d1, e1, hD, tk, hsh, mn, tp, lK, tK]; rfl) ?_ | with_reducible refine wp_seal (by simp -dsimp -implicitDefEqProofs [hne, n1, hi1, hi0, b1, b3, t1, d1, e1, hD, tk, hsh, mn, tp, lK, tK]; rfl) ?_ | with_reducible refine wp_closeS (by simp -dsimp -implicitDefEqProofs [hne, n1, hi1, hi0, b1, b3, t1, d1, e1, hD, tk, hsh, mn, tp, lK, tK]; rfl) ?_ | with_reducible refine wp_close (by simp -dsimp -implicitDefEqProofs [hne, n1, hi1, hi0, b1, b3, t1, d1, e1, hD, tk, hsh, mn, tp, lK, tK]; rfl) ?_ | with_reducible refine wp_conc_out ?_ | with_reducible refine wp_open_out ?_ | with_reducible refine wp_pack_out ?_ | with_reducible refine wp_blockS ?_ | with_reducible refine wp_skip' ?_ | with_reducible refine wp_ret' ?_ | with_reducible refine wp_exit' ?_ | with_reducible refine wp_drop (wp_eqT (by simp -dsimp -implicitDefEqProofs [hne, n1, hi1, hi0, b1, b3, t1, d1, e1, hD, tk, hsh, mn, tp, lK, tK]; rfl) ?_) | with_reducible refine wp_block' ?_
        | with_reducible refine wp_condVS (by simp -dsimp -implicitDefEqProofs [hne, n1, hi1, hi0, b1, b3, t1, d1, e1, hD, tk, hsh, mn, tp, lK, tK]; rfl) ?_
        | with_reducible refine wp_condV (by simp -dsimp -implicitDefEqProofs [hne, n1, hi1, hi0, b1, b3, t1, d1, e1, hD, tk, hsh, mn, tp, lK, tK]; rfl) ?_
        | with_reducible refine cond_t ?_ | with_reducible refine cond_f ?_ | with_reducible refine cond_v (fun h => ?_) (fun h => ?_)
        | with_reducible refine post_then ?_ | with_reducible refine post_thenE ?_ | with_reducible refine post_thenP ?_ | with_reducible refine post_blkP ?_ | with_reducible refine post_thenR ?_ | with_reducible refine post_blkN ?_ | with_reducible refine post_blkE ?_ | with_reducible refine post_blkF rfl ?_ | with_reducible refine post_blkR ?_
        | with_reducible refine seg_eval (by simp -dsimp -implicitDefEqProofs [hne, n1, hi1, hi0, b1, b3, t1, d1, e1, hD, tk, hsh, mn, tp, lK, tK]; rfl) ?_
    all_goals first
      | omega
      | exact ⟨by omega, fun x hx => List.all_eq_true.1 hsh x (List.mem_of_mem_drop hx)⟩
      | exact post_fin rfl rfl ⟨[], [0, 1], rfl, rfl, rfl, by simp⟩
      | trace_state
  · subst hes
    simp at hi
end Go.Proofs.YtajpaagbfmjacaaGreatDoor.Am
