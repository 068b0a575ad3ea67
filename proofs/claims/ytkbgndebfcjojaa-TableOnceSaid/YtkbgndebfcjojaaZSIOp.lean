/-
  An element put into a slice of the call's own (Op).
-/
import Derived.Test.YtkbgndebfcjojaaZCodeB
import Derived.Test.YtkbgndebfcjojaaZQ5
import Derived.Test.YtkbgndebfcjojaaZQ4
namespace Go.Proofs.Ytkbgndebfcjojaa.Am
set_option linter.unusedSimpArgs false
set_option linter.unusedVariables false
open Go Go.Proofs
attribute [local irreducible] wpA

theorem overOp_ok : CallOk Try.prog 52 spOver :=
  over_ext (fn := Try.f52) (tS := 35) (tR := 4) (e := 60) (sz := 7) (by kernel_rfl) (by kernel_rfl) (by kernel_rfl) (by kernel_rfl) (by kernel_rfl) Try.underlying35 (by kernel_rfl)

def spInsOp : Spec
  | [.osl 0, .v (.int .i64 i), .osl 1], [.arr t1 s1 es, .arr t2 s2 [e]] =>
    if t1 = 60 ∧ s1 = 7 ∧ t2 = 60 ∧ s2 = 7 ∧ 0 ≤ i ∧ i.toNat ≤ es.length ∧ es.all AV.shaped = true ∧ e.shaped = true ∧ es.length ≤ 100000000 then
      some (.ret (.osl 2), [.gone, .arr 60 7 [e], .arr 60 7 (es.take i.toNat ++ [e] ++ es.drop i.toNat)]) else none
  | _, _ => none

set_option maxHeartbeats 8000000 in
theorem insOp_ok : CallOk Try.prog 26 spInsOp := by
  refine ok_26 (Env.put_ok [true, true] (Env.none_ok _) overOp_ok) spInsOp fun args mem r mem1 h => ?_
  unfold spInsOp at h
  split at h
  case h_2 => cases h
  rename_i i t1 s1 es t2 s2 e
  obtain ⟨⟨rfl, rfl, rfl, rfl, h0, hi, hsh, he, hl⟩, h2⟩ := if_some h
  cases h2
  clear h
  obtain ⟨i, rfl⟩ := Int.eq_ofNat_of_zero_le h0
  simp only [Int.toNat_natCast] at hi ⊢
  unfold ac_26
  repeat' first
      | with_reducible refine wp_regionS (seg_eval (by simp -dsimp -implicitDefEqProofs; rfl) ?_)
      | with_reducible refine wp_region (seg_eval (by simp -dsimp -implicitDefEqProofs; rfl) ?_)
      | with_reducible refine wp_drawsS (seg_eval (by simp -dsimp -implicitDefEqProofs; rfl) ?_)
      | with_reducible refine wp_draws (seg_eval (by simp -dsimp -implicitDefEqProofs; rfl) ?_)
      | with_reducible refine seg_fin ?_
      | with_reducible refine seg_pan ?_
      | with_reducible refine seg_both ?_ ?_
      | with_reducible refine seg_case (fun x h => ?_) (fun h => ?_)
      | with_reducible refine seg_gate (fun h => ?_) (fun h => ?_)
      | with_reducible refine seg_need ?_ ?_
      | with_reducible refine wp_assoc ?_ | with_reducible refine wp_skipS ?_ | with_reducible refine wp_retS ?_ | with_reducible refine wp_exitS ?_ | with_reducible refine wp_dropS (wp_eqT (by simp -dsimp -implicitDefEqProofs; rfl) ?_) | with_reducible refine wp_sealS (by simp -dsimp -implicitDefEqProofs; rfl) ?_ | with_reducible refine wp_seal (by simp -dsimp -implicitDefEqProofs; rfl) ?_ | with_reducible refine wp_closeS (by simp -dsimp -implicitDefEqProofs; rfl) ?_ | with_reducible refine wp_close (by simp -dsimp -implicitDefEqProofs; rfl) ?_ | with_reducible refine wp_conc_out ?_ | with_reducible refine wp_open_out ?_ | with_reducible refine wp_pack_out ?_ | with_reducible refine wp_blockS ?_ | with_reducible refine wp_skip' ?_ | with_reducible refine wp_ret' ?_ | with_reducible refine wp_exit' ?_ | with_reducible refine wp_drop (wp_eqT (by simp -dsimp -implicitDefEqProofs; rfl) ?_) | with_reducible refine wp_block' ?_
      | with_reducible refine wp_condVS (by simp -dsimp -implicitDefEqProofs; rfl) ?_
      | with_reducible refine wp_condV (by simp -dsimp -implicitDefEqProofs; rfl) ?_
      | with_reducible refine cond_t ?_ | with_reducible refine cond_f ?_ | with_reducible refine cond_v (fun h => ?_) (fun h => ?_)
      | with_reducible refine post_then ?_ | with_reducible refine post_thenE ?_ | with_reducible refine post_thenP ?_ | with_reducible refine post_blkP ?_ | with_reducible refine post_thenR ?_ | with_reducible refine post_blkN ?_ | with_reducible refine post_blkE ?_ | with_reducible refine post_blkF rfl ?_ | with_reducible refine post_blkR ?_
      | with_reducible refine seg_eval (by simp -dsimp -implicitDefEqProofs; rfl) ?_
  refine wp_open_at (by rfl) (by rfl) (fun k hk => ?_) (fun hes => ?_)
  · by_cases hin : i = es.length
    · subst hin
      repeat' first
          | with_reducible refine wp_regionS (seg_eval (by simp -dsimp -implicitDefEqProofs [hsh, he]; rfl) ?_)
          | with_reducible refine wp_region (seg_eval (by simp -dsimp -implicitDefEqProofs [hsh, he]; rfl) ?_)
          | with_reducible refine wp_drawsS (seg_eval (by simp -dsimp -implicitDefEqProofs [hsh, he]; rfl) ?_)
          | with_reducible refine wp_draws (seg_eval (by simp -dsimp -implicitDefEqProofs [hsh, he]; rfl) ?_)
          | with_reducible refine seg_fin ?_
          | with_reducible refine seg_pan ?_
          | with_reducible refine seg_both ?_ ?_
          | with_reducible refine seg_case (fun x h => ?_) (fun h => ?_)
          | with_reducible refine seg_gate (fun h => ?_) (fun h => ?_)
          | with_reducible refine seg_need ?_ ?_
          | with_reducible refine wp_assoc ?_ | with_reducible refine wp_skipS ?_ | with_reducible refine wp_retS ?_ | with_reducible refine wp_exitS ?_ | with_reducible refine wp_dropS (wp_eqT (by simp -dsimp -implicitDefEqProofs [hsh, he]; rfl) ?_) | with_reducible refine wp_sealS (by simp -dsimp -implicitDefEqProofs [hsh, he]; rfl) ?_ | with_reducible refine wp_seal (by simp -dsimp -implicitDefEqProofs [hsh, he]; rfl) ?_ | with_reducible refine wp_closeS (by simp -dsimp -implicitDefEqProofs [hsh, he]; rfl) ?_ | with_reducible refine wp_close (by simp -dsimp -implicitDefEqProofs [hsh, he]; rfl) ?_ | with_reducible refine wp_conc_out ?_ | with_reducible refine wp_open_out ?_ | with_reducible refine wp_pack_out ?_ | with_reducible refine wp_blockS ?_ | with_reducible refine wp_skip' ?_ | with_reducible refine wp_ret' ?_ | with_reducible refine wp_exit' ?_ | with_reducible refine wp_drop (wp_eqT (by simp -dsimp -implicitDefEqProofs [hsh, he]; rfl) ?_) | with_reducible refine wp_block' ?_
          | with_reducible refine wp_condVS (by simp -dsimp -implicitDefEqProofs [hsh, he]; rfl) ?_
          | with_reducible refine wp_condV (by simp -dsimp -implicitDefEqProofs [hsh, he]; rfl) ?_
          | with_reducible refine cond_t ?_ | with_reducible refine cond_f ?_ | with_reducible refine cond_v (fun h => ?_) (fun h => ?_)
          | with_reducible refine post_then ?_ | with_reducible refine post_thenE ?_ | with_reducible refine post_thenP ?_ | with_reducible refine post_blkP ?_ | with_reducible refine post_thenR ?_ | with_reducible refine post_blkN ?_ | with_reducible refine post_blkE ?_ | with_reducible refine post_blkF rfl ?_ | with_reducible refine post_blkR ?_
          | with_reducible refine seg_eval (by simp -dsimp -implicitDefEqProofs [hsh, he]; rfl) ?_
      · exact ⟨by omega, by omega, he⟩
      · exact post_fin rfl rfl ⟨[], [0, 1, 3], rfl, rfl, rfl, by simp⟩
    · have hlt : i < es.length := by omega
      have hne : (i == es.length) = false := by simp [hin]
      have w1 : IntKind.i64.wrap ((es.length : Int) + 1) = (es.length : Int) + 1 := IntWalk.i64_in _ (by omega)
      have w2 : IntKind.i64.wrap ((es.length : Int) + 1 - i) = (es.length : Int) + 1 - i := IntWalk.i64_in _ (by omega)
      have w3 : IntKind.i64.wrap ((i : Int) + 1) = (i : Int) + 1 := IntWalk.i64_in _ (by omega)
      have n1 : ((es.length : Int) + 1).toNat = es.length + 1 := by omega
      have n2 : ((es.length : Int) + 1 - i).toNat = es.length + 1 - i := by omega
      have n3 : ((i : Int) + 1).toNat = i + 1 := by omega
      have c0 : decide ((0 : Int) ≤ (es.length : Int) + 1 - i) = true := by rw [decide_eq_true_eq]; omega
      rcases k with _ | k
      · have hg : decide ((es.length : Int) < (es.length : Int) + 1) = true := by rw [decide_eq_true_eq]; omega
        repeat' first
            | with_reducible refine wp_regionS (seg_eval (by simp -dsimp -implicitDefEqProofs [hsh, he, hne, hi, w1, w2, w3, n1, n2, n3, c0, hg]; rfl) ?_)
            | with_reducible refine wp_region (seg_eval (by simp -dsimp -implicitDefEqProofs [hsh, he, hne, hi, w1, w2, w3, n1, n2, n3, c0, hg]; rfl) ?_)
            | with_reducible refine wp_drawsS (seg_eval (by simp -dsimp -implicitDefEqProofs [hsh, he, hne, hi, w1, w2, w3, n1, n2, n3, c0, hg]; rfl) ?_)
            | with_reducible refine wp_draws (seg_eval (by simp -dsimp -implicitDefEqProofs [hsh, he, hne, hi, w1, w2, w3, n1, n2, n3, c0, hg]; rfl) ?_)
            | with_reducible refine seg_fin ?_
            | with_reducible refine seg_pan ?_
            | with_reducible refine seg_both ?_ ?_
            | with_reducible refine seg_case (fun x h => ?_) (fun h => ?_)
            | with_reducible refine seg_gate (fun h => ?_) (fun h => ?_)
            | with_reducible refine seg_need ?_ ?_
            | with_reducible refine wp_assoc ?_ | with_reducible refine wp_skipS ?_ | with_reducible refine wp_retS ?_ | with_reducible refine wp_exitS ?_ | with_reducible refine wp_dropS (wp_eqT (by simp -dsimp -implicitDefEqProofs [hsh, he, hne, hi, w1, w2, w3, n1, n2, n3, c0, hg]; rfl) ?_) | with_reducible refine wp_sealS (by simp -dsimp -implicitDefEqProofs [hsh, he, hne, hi, w1, w2, w3, n1, n2, n3, c0, hg]; rfl) ?_ | with_reducible refine wp_seal (by simp -dsimp -implicitDefEqProofs [hsh, he, hne, hi, w1, w2, w3, n1, n2, n3, c0, hg]; rfl) ?_ | with_reducible refine wp_closeS (by simp -dsimp -implicitDefEqProofs [hsh, he, hne, hi, w1, w2, w3, n1, n2, n3, c0, hg]; rfl) ?_ | with_reducible refine wp_close (by simp -dsimp -implicitDefEqProofs [hsh, he, hne, hi, w1, w2, w3, n1, n2, n3, c0, hg]; rfl) ?_ | with_reducible refine wp_conc_out ?_ | with_reducible refine wp_open_out ?_ | with_reducible refine wp_pack_out ?_ | with_reducible refine wp_blockS ?_ | with_reducible refine wp_skip' ?_ | with_reducible refine wp_ret' ?_ | with_reducible refine wp_exit' ?_ | with_reducible refine wp_drop (wp_eqT (by simp -dsimp -implicitDefEqProofs [hsh, he, hne, hi, w1, w2, w3, n1, n2, n3, c0, hg]; rfl) ?_) | with_reducible refine wp_block' ?_
            | with_reducible refine wp_condVS (by simp -dsimp -implicitDefEqProofs [hsh, he, hne, hi, w1, w2, w3, n1, n2, n3, c0, hg]; rfl) ?_
            | with_reducible refine wp_condV (by simp -dsimp -implicitDefEqProofs [hsh, he, hne, hi, w1, w2, w3, n1, n2, n3, c0, hg]; rfl) ?_
            | with_reducible refine cond_t ?_ | with_reducible refine cond_f ?_ | with_reducible refine cond_v (fun h => ?_) (fun h => ?_)
            | with_reducible refine post_then ?_ | with_reducible refine post_thenE ?_ | with_reducible refine post_thenP ?_ | with_reducible refine post_blkP ?_ | with_reducible refine post_thenR ?_ | with_reducible refine post_blkN ?_ | with_reducible refine post_blkE ?_ | with_reducible refine post_blkF rfl ?_ | with_reducible refine post_blkR ?_
            | with_reducible refine seg_eval (by simp -dsimp -implicitDefEqProofs [hsh, he, hne, hi, w1, w2, w3, n1, n2, n3, c0, hg]; rfl) ?_
        · have hlen : (es.take i).length = i := by simp; omega
          refine ⟨by omega, by omega, by omega, by omega, fun x hx => List.all_eq_true.1 hsh x (List.mem_of_mem_take hx)⟩
        · have hFl : ∀ z : AV, (es.take i ++ List.replicate (es.length + 1 - i) z).length = es.length + 1 := by intro z; simp; omega
          have hFt : ∀ (z : AV) G, ((es.take i ++ List.replicate (es.length + 1 - i) z) ++ G).take i = es.take i := by
            intro z G
            rw [List.append_assoc, List.take_append_of_le_length (by simp; omega), List.take_take, Nat.min_self]
          generalize hF : es.take i ++ List.replicate (es.length + 1 - i) _ = F
          replace hFl : F.length = es.length + 1 := hF ▸ hFl _
          replace hFt : ∀ G, (F ++ G).take i = es.take i := fun G => hF ▸ hFt _ G
          clear hF
          refine wp_open_at (by rfl) (by rfl) (fun k hk2 => ?_) (fun hes => ?_)
          · generalize List.replicate k _ = G
            have m1 : min 1 (es.length + 1 - i) = 1 := by omega
            have hi1 : i ≤ es.length + 1 := by omega
            have t1 : [e].take (es.length + 1 - i) = [e] := List.take_of_length_le (by simp; omega)
            obtain ⟨D, hD⟩ : ∃ D, D = (F ++ G).drop (i + 1) := ⟨_, rfl⟩
            have hDl : D.length = es.length - i + G.length := by rw [hD]; simp; omega
            replace hD := hD.symm
            have b1 : ((i : Int) + 1 < 0) = False := by simp; omega
            have b2 : (0 : Int) ≤ (i : Int) + 1 := by omega
            have b3 : i + 1 ≤ es.length + 1 := by omega
            have b4 : es.length + 1 ≤ i + (D.length + 1) := by omega
            have m2 : min (es.length - i) (es.length - i) = es.length - i := by omega
            have t2 : (es.take i ++ e :: D).take (i + 1) = es.take i ++ [e] := by
              have : (es.take i).length = i := by simp; omega
              rw [show es.take i ++ e :: D = (es.take i ++ [e]) ++ D by simp, List.take_left' (by simp; omega)]
            have t3 : (es.drop i).take (es.length - i) = es.drop i := List.take_of_length_le (by simp)
            obtain ⟨R, hR⟩ : ∃ R, R = (es.take i ++ e :: D).drop (i + 1 + (es.length - i)) := ⟨_, rfl⟩
            replace hR := hR.symm
            have b5 : es.length ≤ i + (es.length - i + R.length) := by omega
            have b6 : es.length + 1 ≤ i + (es.length - i + R.length + 1) := by omega
            have b7 : (es.take i).length = i := by simp; omega
            have t4 : (es.take i ++ e :: (es.drop i ++ R)).take (es.length + 1) = es.take i ++ e :: es.drop i := by
              rw [show es.take i ++ e :: (es.drop i ++ R) = (es.take i ++ e :: es.drop i) ++ R by simp, List.take_left' (by simp; omega)]
            repeat' first
                | with_reducible refine wp_regionS (seg_eval (by simp -dsimp -implicitDefEqProofs [hsh, he, hne, hi, w1, w2, w3, n1, n2, n3, c0, hg, hFl, hFt, m1, t1, hi1, hD, b1, b2, b3, b4, m2, t2, t3, hR, b5, b6, b7, t4]; rfl) ?_)
                | with_reducible refine wp_region (seg_eval (by simp -dsimp -implicitDefEqProofs [hsh, he, hne, hi, w1, w2, w3, n1, n2, n3, c0, hg, hFl, hFt, m1, t1, hi1, hD, b1, b2, b3, b4, m2, t2, t3, hR, b5, b6, b7, t4]; rfl) ?_)
                | with_reducible refine wp_drawsS (seg_eval (by simp -dsimp -implicitDefEqProofs [hsh, he, hne, hi, w1, w2, w3, n1, n2, n3, c0, hg, hFl, hFt, m1, t1, hi1, hD, b1, b2, b3, b4, m2, t2, t3, hR, b5, b6, b7, t4]; rfl) ?_)
                | with_reducible refine wp_draws (seg_eval (by simp -dsimp -implicitDefEqProofs [hsh, he, hne, hi, w1, w2, w3, n1, n2, n3, c0, hg, hFl, hFt, m1, t1, hi1, hD, b1, b2, b3, b4, m2, t2, t3, hR, b5, b6, b7, t4]; rfl) ?_)
                | with_reducible refine seg_fin ?_
                | with_reducible refine seg_pan ?_
                | with_reducible refine seg_both ?_ ?_
                | with_reducible refine seg_case (fun x h => ?_) (fun h => ?_)
                | with_reducible refine seg_gate (fun h => ?_) (fun h => ?_)
                | with_reducible refine seg_need ?_ ?_
                | with_reducible refine wp_assoc ?_ | with_reducible refine wp_skipS ?_ | with_reducible refine wp_retS ?_ | with_reducible refine wp_exitS ?_ | with_reducible refine wp_dropS (wp_eqT (by simp -dsimp -implicitDefEqProofs [hsh, he, hne, hi, w1, w2, w3, n1, n2, n3, c0, hg, hFl, hFt, m1, t1, hi1, hD, b1, b2, b3, b4, m2, t2, t3, hR, b5, b6, b7, t4]; rfl) ?_) | with_reducible refine wp_sealS (by simp -dsimp -implicitDefEqProofs [hsh, he, hne, hi, w1, w2, w3, n1, n2, n3, c0, hg, hFl, hFt, m1, t1, hi1, hD, b1, b2, b3, b4, m2, t2, t3, hR, b5, b6, b7, t4]; rfl) ?_ | with_reducible refine wp_seal (by simp -dsimp -implicitDefEqProofs [hsh, he, hne, hi, w1, w2, w3, n1, n2, n3, c0, hg, hFl, hFt, m1, t1, hi1, hD, b1, b2, b3, b4, m2, t2, t3, hR, b5, b6, b7, t4]; rfl) ?_ | with_reducible refine wp_closeS (by simp -dsimp -implicitDefEqProofs [hsh, he, hne, hi, w1, w2, w3, n1, n2, n3, c0, hg, hFl, hFt, m1, t1, hi1, hD, b1, b2, b3, b4, m2, t2, t3, hR, b5, b6, b7, t4]; rfl) ?_ | with_reducible refine wp_close (by simp -dsimp -implicitDefEqProofs [hsh, he, hne, hi, w1, w2, w3, n1, n2, n3, c0, hg, hFl, hFt, m1, t1, hi1, hD, b1, b2, b3, b4, m2, t2, t3, hR, b5, b6, b7, t4]; rfl) ?_ | with_reducible refine wp_conc_out ?_ | with_reducible refine wp_open_out ?_ | with_reducible refine wp_pack_out ?_ | with_reducible refine wp_blockS ?_ | with_reducible refine wp_skip' ?_ | with_reducible refine wp_ret' ?_ | with_reducible refine wp_exit' ?_ | with_reducible refine wp_drop (wp_eqT (by simp -dsimp -implicitDefEqProofs [hsh, he, hne, hi, w1, w2, w3, n1, n2, n3, c0, hg, hFl, hFt, m1, t1, hi1, hD, b1, b2, b3, b4, m2, t2, t3, hR, b5, b6, b7, t4]; rfl) ?_) | with_reducible refine wp_block' ?_
                | with_reducible refine wp_condVS (by simp -dsimp -implicitDefEqProofs [hsh, he, hne, hi, w1, w2, w3, n1, n2, n3, c0, hg, hFl, hFt, m1, t1, hi1, hD, b1, b2, b3, b4, m2, t2, t3, hR, b5, b6, b7, t4]; rfl) ?_
                | with_reducible refine wp_condV (by simp -dsimp -implicitDefEqProofs [hsh, he, hne, hi, w1, w2, w3, n1, n2, n3, c0, hg, hFl, hFt, m1, t1, hi1, hD, b1, b2, b3, b4, m2, t2, t3, hR, b5, b6, b7, t4]; rfl) ?_
                | with_reducible refine cond_t ?_ | with_reducible refine cond_f ?_ | with_reducible refine cond_v (fun h => ?_) (fun h => ?_)
                | with_reducible refine post_then ?_ | with_reducible refine post_thenE ?_ | with_reducible refine post_thenP ?_ | with_reducible refine post_blkP ?_ | with_reducible refine post_thenR ?_ | with_reducible refine post_blkN ?_ | with_reducible refine post_blkE ?_ | with_reducible refine post_blkF rfl ?_ | with_reducible refine post_blkR ?_
                | with_reducible refine seg_eval (by simp -dsimp -implicitDefEqProofs [hsh, he, hne, hi, w1, w2, w3, n1, n2, n3, c0, hg, hFl, hFt, m1, t1, hi1, hD, b1, b2, b3, b4, m2, t2, t3, hR, b5, b6, b7, t4]; rfl) ?_
            all_goals first
              | exact he
              | exact ⟨by omega, fun x hx => List.all_eq_true.1 hsh x (List.mem_of_mem_drop hx)⟩
              | exact ⟨by omega, fun x hx => List.all_eq_true.1 hsh x (List.mem_of_mem_drop (List.mem_of_mem_take hx))⟩
              | exact ⟨by omega, fun x hx => List.all_eq_true.1 hsh x (List.mem_of_mem_drop (List.mem_of_mem_take (List.mem_of_mem_take hx)))⟩
              | exact post_fin rfl rfl ⟨[], [0, 1, 4], rfl, rfl, rfl, by simp⟩
          · exfalso
            rw [hes] at hFl
            simp at hFl
      · rw [List.replicate_succ]
        have hZ : ∀ x : AV, (List.replicate k x).length = k := fun x => by simp
        generalize hZ2 : List.replicate k _ = Z
        replace hZ : Z.length = k := hZ2 ▸ hZ _
        clear hZ2
        generalize AV.agg (List.replicate 7 AV.any) = z
        have hg : decide ((es.length : Int) + ((Z.length : Int) + 1) < (es.length : Int) + 1) = false := by rw [decide_eq_false_iff_not]; omega
        have hg2 : decide ((es.length : Int) + ((Z.length : Int) + 1) ≤ (es.length : Int)) = false := by rw [decide_eq_false_iff_not]; omega
        have b2 : (0 : Int) ≤ (i : Int) + 1 := by omega
        have b8 : (0 : Int) ≤ (es.length : Int) + 1 := by omega
        have b9 : i + 1 ≤ es.length + 1 := by omega
        have b10 : es.length + 1 ≤ es.length + (Z.length + 1) := by omega
        have b11 : i ≤ es.length + (Z.length + 1) := by omega
        have b12 : i ≤ es.length + 1 := by omega
        have s1 : (((es ++ z :: Z).drop i).take (es.length + 1 - i)).take (es.length - i) = es.drop i := by
          rw [List.take_take, Nat.min_eq_left (by omega), List.drop_append_of_le_length hi, List.take_append_of_le_length (by simp), List.take_of_length_le (by simp)]
        obtain ⟨C, hC⟩ : ∃ C, C = (es ++ z :: Z).take (i + 1) := ⟨_, rfl⟩
        have hCl : C.length = i + 1 := by rw [hC]; simp; omega
        have hCt : ∀ X, (C ++ X).take i = es.take i := by
          intro X
          rw [List.take_append_of_le_length (by omega), hC, List.take_take, Nat.min_eq_left (by omega), List.take_append_of_le_length hi]
        have hCd : ∀ X, (C ++ X).drop (i + 1) = X := fun X => by rw [List.drop_left' hCl]
        obtain ⟨R, hR⟩ : ∃ R, R = (es ++ z :: Z).drop (i + 1 + (es.length - i)) := ⟨_, rfl⟩
        have hRl : R.length = Z.length := by rw [hR]; simp; omega
        replace hR := hR.symm
        replace hC := hC.symm
        have m1 : min 1 (es.length + 1 - i) = 1 := by omega
        have m2 : min (es.length + 1 - i) (es.length - i) = es.length - i := by omega
        have m3 : min (es.length + 1 - i) (es.length + (Z.length + 1) - i) = es.length + 1 - i := by omega
        have t1 : [e].take (es.length + 1 - i) = [e] := List.take_of_length_le (by simp; omega)
        have b5 : es.length ≤ i + (es.length - i + R.length) := by omega
        have b6 : es.length + 1 ≤ i + (es.length - i + R.length + 1) := by omega
        have b13 : es.length + 1 ≤ i + 1 + (es.length - i + R.length) := by omega
        have b7 : (es.take i).length = i := by simp; omega
        have t4 : (es.take i ++ e :: (es.drop i ++ R)).take (es.length + 1) = es.take i ++ e :: es.drop i := by
          rw [show es.take i ++ e :: (es.drop i ++ R) = (es.take i ++ e :: es.drop i) ++ R by simp, List.take_left' (by simp; omega)]
        repeat' first
            | with_reducible refine wp_regionS (seg_eval (by simp -dsimp -implicitDefEqProofs [hsh, he, hne, hi, w1, w2, w3, n1, n2, n3, c0, hg, hg2, b2, b8, b9, b10, b11, b12, s1, hC, hCl, hCt, hCd, hR, m1, m2, m3, t1, b5, b6, b13, b7, t4]; rfl) ?_)
            | with_reducible refine wp_region (seg_eval (by simp -dsimp -implicitDefEqProofs [hsh, he, hne, hi, w1, w2, w3, n1, n2, n3, c0, hg, hg2, b2, b8, b9, b10, b11, b12, s1, hC, hCl, hCt, hCd, hR, m1, m2, m3, t1, b5, b6, b13, b7, t4]; rfl) ?_)
            | with_reducible refine wp_drawsS (seg_eval (by simp -dsimp -implicitDefEqProofs [hsh, he, hne, hi, w1, w2, w3, n1, n2, n3, c0, hg, hg2, b2, b8, b9, b10, b11, b12, s1, hC, hCl, hCt, hCd, hR, m1, m2, m3, t1, b5, b6, b13, b7, t4]; rfl) ?_)
            | with_reducible refine wp_draws (seg_eval (by simp -dsimp -implicitDefEqProofs [hsh, he, hne, hi, w1, w2, w3, n1, n2, n3, c0, hg, hg2, b2, b8, b9, b10, b11, b12, s1, hC, hCl, hCt, hCd, hR, m1, m2, m3, t1, b5, b6, b13, b7, t4]; rfl) ?_)
            | with_reducible refine seg_fin ?_
            | with_reducible refine seg_pan ?_
            | with_reducible refine seg_both ?_ ?_
            | with_reducible refine seg_case (fun x h => ?_) (fun h => ?_)
            | with_reducible refine seg_gate (fun h => ?_) (fun h => ?_)
            | with_reducible refine seg_need ?_ ?_
            | with_reducible refine wp_assoc ?_ | with_reducible refine wp_skipS ?_ | with_reducible refine wp_retS ?_ | with_reducible refine wp_exitS ?_ | with_reducible refine wp_dropS (wp_eqT (by simp -dsimp -implicitDefEqProofs [hsh, he, hne, hi, w1, w2, w3, n1, n2, n3, c0, hg, hg2, b2, b8, b9, b10, b11, b12, s1, hC, hCl, hCt, hCd, hR, m1, m2, m3, t1, b5, b6, b13, b7, t4]; rfl) ?_) | with_reducible refine wp_sealS (by simp -dsimp -implicitDefEqProofs [hsh, he, hne, hi, w1, w2, w3, n1, n2, n3, c0, hg, hg2, b2, b8, b9, b10, b11, b12, s1, hC, hCl, hCt, hCd, hR, m1, m2, m3, t1, b5, b6, b13, b7, t4]; rfl) ?_ | with_reducible refine wp_seal (by simp -dsimp -implicitDefEqProofs [hsh, he, hne, hi, w1, w2, w3, n1, n2, n3, c0, hg, hg2, b2, b8, b9, b10, b11, b12, s1, hC, hCl, hCt, hCd, hR, m1, m2, m3, t1, b5, b6, b13, b7, t4]; rfl) ?_ | with_reducible refine wp_closeS (by simp -dsimp -implicitDefEqProofs [hsh, he, hne, hi, w1, w2, w3, n1, n2, n3, c0, hg, hg2, b2, b8, b9, b10, b11, b12, s1, hC, hCl, hCt, hCd, hR, m1, m2, m3, t1, b5, b6, b13, b7, t4]; rfl) ?_ | with_reducible refine wp_close (by simp -dsimp -implicitDefEqProofs [hsh, he, hne, hi, w1, w2, w3, n1, n2, n3, c0, hg, hg2, b2, b8, b9, b10, b11, b12, s1, hC, hCl, hCt, hCd, hR, m1, m2, m3, t1, b5, b6, b13, b7, t4]; rfl) ?_ | with_reducible refine wp_conc_out ?_ | with_reducible refine wp_open_out ?_ | with_reducible refine wp_pack_out ?_ | with_reducible refine wp_blockS ?_ | with_reducible refine wp_skip' ?_ | with_reducible refine wp_ret' ?_ | with_reducible refine wp_exit' ?_ | with_reducible refine wp_drop (wp_eqT (by simp -dsimp -implicitDefEqProofs [hsh, he, hne, hi, w1, w2, w3, n1, n2, n3, c0, hg, hg2, b2, b8, b9, b10, b11, b12, s1, hC, hCl, hCt, hCd, hR, m1, m2, m3, t1, b5, b6, b13, b7, t4]; rfl) ?_) | with_reducible refine wp_block' ?_
            | with_reducible refine wp_condVS (by simp -dsimp -implicitDefEqProofs [hsh, he, hne, hi, w1, w2, w3, n1, n2, n3, c0, hg, hg2, b2, b8, b9, b10, b11, b12, s1, hC, hCl, hCt, hCd, hR, m1, m2, m3, t1, b5, b6, b13, b7, t4]; rfl) ?_
            | with_reducible refine wp_condV (by simp -dsimp -implicitDefEqProofs [hsh, he, hne, hi, w1, w2, w3, n1, n2, n3, c0, hg, hg2, b2, b8, b9, b10, b11, b12, s1, hC, hCl, hCt, hCd, hR, m1, m2, m3, t1, b5, b6, b13, b7, t4]; rfl) ?_
            | with_reducible refine cond_t ?_ | with_reducible refine cond_f ?_ | with_reducible refine cond_v (fun h => ?_) (fun h => ?_)
            | with_reducible refine post_then ?_ | with_reducible refine post_thenE ?_ | with_reducible refine post_thenP ?_ | with_reducible refine post_blkP ?_ | with_reducible refine post_thenR ?_ | with_reducible refine post_blkN ?_ | with_reducible refine post_blkE ?_ | with_reducible refine post_blkF rfl ?_ | with_reducible refine post_blkR ?_
            | with_reducible refine seg_eval (by simp -dsimp -implicitDefEqProofs [hsh, he, hne, hi, w1, w2, w3, n1, n2, n3, c0, hg, hg2, b2, b8, b9, b10, b11, b12, s1, hC, hCl, hCt, hCd, hR, m1, m2, m3, t1, b5, b6, b13, b7, t4]; rfl) ?_
        all_goals first
          | exact he
          | exact ⟨by omega, fun x hx => List.all_eq_true.1 hsh x (List.mem_of_mem_drop hx)⟩
          | (exfalso; simp only [decide_eq_true_eq] at h; omega)
          | exact post_fin rfl rfl ⟨[], [0, 1, 2], rfl, rfl, rfl, by simp⟩
          | trace_state
  · subst hes
    have : i = 0 := by simpa using hi
    subst this
    repeat' first
        | with_reducible refine wp_regionS (seg_eval (by simp -dsimp -implicitDefEqProofs [he]; rfl) ?_)
        | with_reducible refine wp_region (seg_eval (by simp -dsimp -implicitDefEqProofs [he]; rfl) ?_)
        | with_reducible refine wp_drawsS (seg_eval (by simp -dsimp -implicitDefEqProofs [he]; rfl) ?_)
        | with_reducible refine wp_draws (seg_eval (by simp -dsimp -implicitDefEqProofs [he]; rfl) ?_)
        | with_reducible refine seg_fin ?_
        | with_reducible refine seg_pan ?_
        | with_reducible refine seg_both ?_ ?_
        | with_reducible refine seg_case (fun x h => ?_) (fun h => ?_)
        | with_reducible refine seg_gate (fun h => ?_) (fun h => ?_)
        | with_reducible refine seg_need ?_ ?_
        | with_reducible refine wp_assoc ?_ | with_reducible refine wp_skipS ?_ | with_reducible refine wp_retS ?_ | with_reducible refine wp_exitS ?_ | with_reducible refine wp_dropS (wp_eqT (by simp -dsimp -implicitDefEqProofs [he]; rfl) ?_) | with_reducible refine wp_sealS (by simp -dsimp -implicitDefEqProofs [he]; rfl) ?_ | with_reducible refine wp_seal (by simp -dsimp -implicitDefEqProofs [he]; rfl) ?_ | with_reducible refine wp_closeS (by simp -dsimp -implicitDefEqProofs [he]; rfl) ?_ | with_reducible refine wp_close (by simp -dsimp -implicitDefEqProofs [he]; rfl) ?_ | with_reducible refine wp_conc_out ?_ | with_reducible refine wp_open_out ?_ | with_reducible refine wp_pack_out ?_ | with_reducible refine wp_blockS ?_ | with_reducible refine wp_skip' ?_ | with_reducible refine wp_ret' ?_ | with_reducible refine wp_exit' ?_ | with_reducible refine wp_drop (wp_eqT (by simp -dsimp -implicitDefEqProofs [he]; rfl) ?_) | with_reducible refine wp_block' ?_
        | with_reducible refine wp_condVS (by simp -dsimp -implicitDefEqProofs [he]; rfl) ?_
        | with_reducible refine wp_condV (by simp -dsimp -implicitDefEqProofs [he]; rfl) ?_
        | with_reducible refine cond_t ?_ | with_reducible refine cond_f ?_ | with_reducible refine cond_v (fun h => ?_) (fun h => ?_)
        | with_reducible refine post_then ?_ | with_reducible refine post_thenE ?_ | with_reducible refine post_thenP ?_ | with_reducible refine post_blkP ?_ | with_reducible refine post_thenR ?_ | with_reducible refine post_blkN ?_ | with_reducible refine post_blkE ?_ | with_reducible refine post_blkF rfl ?_ | with_reducible refine post_blkR ?_
        | with_reducible refine seg_eval (by simp -dsimp -implicitDefEqProofs [he]; rfl) ?_
    · exact he
    · exact post_fin rfl rfl ⟨[], [0, 1, 2], rfl, rfl, rfl, by simp⟩
end Go.Proofs.Ytkbgndebfcjojaa.Am
