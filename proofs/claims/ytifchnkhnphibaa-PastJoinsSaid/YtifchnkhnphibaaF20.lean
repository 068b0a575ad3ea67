import Derived.Test.YtifchnkhnphibaaF18
namespace Go.Proofs.Ytifchnkhnphibaa.Am
set_option linter.unusedSimpArgs false
set_option linter.unusedVariables false
open Go Go.Proofs
attribute [local irreducible] wpA

def spOne : Spec
  | [.fsl 1 es, .v (.int .i64 a)], [] => (inB es).bind fun b => if 0 ≤ a ∧ a < b.length ∧ b.length ≤ 8000 then some (.ret (.tup [av2 (oneP b a.toNat).1, .v (.int .i64 (oneP b a.toNat).2)]), []) else none
  | _, _ => none

theorem take_one {b : List UInt8} {a : Nat} {c : UInt8} (h : b[a]? = some c) : leB ((b.drop a).take 1) = c.toNat := by
  have := valB_some h 0
  simpa [valB, leB] using this

set_option maxHeartbeats 8000000 in
theorem one_ok : CallOk Try.prog 39 spOne := by
  refine ok_39 E18_ok spOne fun args mem r mem1 h => ?_
  unfold spOne at h
  split at h
  case h_2 => cases h
  rename_i es a
  obtain ⟨b, hb, h2⟩ := Option.bind_eq_some_iff.1 h
  clear h
  have := inB_some es b hb
  subst this
  clear hb
  obtain ⟨hx, h3⟩ := if_some h2
  clear h2
  cases h3
  obtain ⟨a, rfl⟩ := Int.eq_ofNat_of_zero_le hx.1
  have hlt : a < b.length := by omega
  have hbl := hx.2.2
  clear hx
  simp only [Int.toNat_natCast]
  obtain ⟨c, hc⟩ : ∃ c, b[a]? = some c := ⟨_, List.getElem?_eq_getElem hlt⟩
  have hcl := c.toNat_lt
  have hc64 : IntKind.wrap .i64 (c.toNat : Int) = (c.toNat : Int) := IntWalk.i64_in _ (by omega)
  have h1 := take_one hc
  have hw1 : IntKind.wrap .i64 ((a : Int) + 1) = (a : Int) + 1 := IntWalk.i64_in _ (by omega)
  have hw2 : IntKind.wrap .i64 ((a : Int) + 2) = (a : Int) + 2 := IntWalk.i64_in _ (by omega)
  have t1 : ((a : Int) + 1).toNat = a + 1 := by omega
  have t2 : ((a : Int) + 2).toNat = a + 2 := by omega
  have w3 : IntKind.wrap .i64 3 = 3 := by decide
  have w2 : IntKind.wrap .i64 2 = 2 := by decide
  unfold ac_39
  by_cases k3 : c.toNat = 3
  · have e : oneP b a = (⟨3, 0, ⟨#[]⟩, (rdec (valB b (a + 1) 8)).getD 0⟩, 9) := by unfold oneP; rw [h1, if_pos k3]
    rw [e]
    have v8 := valB_lt b (a + 1) (size := 8) (by decide)
    repeat' first
        | with_reducible refine wp_regionS (seg_eval (by simp -dsimp -implicitDefEqProofs [hc, k3, w3, hw1, t1]; rfl) ?_)
        | with_reducible refine wp_region (seg_eval (by simp -dsimp -implicitDefEqProofs [hc, k3, w3, hw1, t1]; rfl) ?_)
        | with_reducible refine wp_drawsS (seg_eval (by simp -dsimp -implicitDefEqProofs [hc, k3, w3, hw1, t1]; rfl) ?_)
        | with_reducible refine wp_draws (seg_eval (by simp -dsimp -implicitDefEqProofs [hc, k3, w3, hw1, t1]; rfl) ?_)
        | with_reducible refine seg_fin ?_
        | with_reducible refine seg_pan ?_
        | with_reducible refine seg_both ?_ ?_
        | with_reducible refine seg_case (fun x h => ?_) (fun h => ?_)
        | with_reducible refine seg_gate (fun h => ?_) (fun h => ?_)
        | with_reducible refine seg_need ?_ ?_
        | with_reducible refine wp_assoc ?_ | with_reducible refine wp_skipS ?_ | with_reducible refine wp_retS ?_ | with_reducible refine wp_exitS ?_ | with_reducible refine wp_dropS (wp_eqT (by simp -dsimp -implicitDefEqProofs [hc, k3, w3, hw1, t1]; rfl) ?_) | with_reducible refine wp_sealS (by simp -dsimp -implicitDefEqProofs [hc, k3, w3, hw1, t1]; rfl) ?_ | with_reducible refine wp_seal (by simp -dsimp -implicitDefEqProofs [hc, k3, w3, hw1, t1]; rfl) ?_ | with_reducible refine wp_blockS ?_ | with_reducible refine wp_skip' ?_ | with_reducible refine wp_ret' ?_ | with_reducible refine wp_exit' ?_ | with_reducible refine wp_drop (wp_eqT (by simp -dsimp -implicitDefEqProofs [hc, k3, w3, hw1, t1]; rfl) ?_) | with_reducible refine wp_block' ?_
        | with_reducible refine wp_condVS (by simp -dsimp -implicitDefEqProofs [hc, k3, w3, hw1, t1]; rfl) ?_
        | with_reducible refine wp_condV (by simp -dsimp -implicitDefEqProofs [hc, k3, w3, hw1, t1]; rfl) ?_
        | with_reducible refine cond_t ?_ | with_reducible refine cond_f ?_ | with_reducible refine cond_v (fun h => ?_) (fun h => ?_)
        | with_reducible refine post_then ?_ | with_reducible refine post_thenE ?_ | with_reducible refine post_thenP ?_ | with_reducible refine post_blkP ?_ | with_reducible refine post_thenR ?_ | with_reducible refine post_blkN ?_ | with_reducible refine post_blkE ?_ | with_reducible refine post_blkF rfl ?_ | with_reducible refine post_blkR ?_
        | with_reducible refine seg_eval (by simp -dsimp -implicitDefEqProofs [hc, k3, w3, hw1, t1]; rfl) ?_
    all_goals first
      | omega
      | exact post_fin rfl rfl ⟨[], [], rfl, rfl, rfl, rfl⟩
      | trace_state
  · have b3 : ((c.toNat : Int) == 3) = false := by rw [beq_eq_false_iff_ne]; omega
    have v1 := valB_lt b (a + 1) (size := 1) (by decide)
    have v1' : valB b (a + 1) 1 < 256 := by
      have := leB_lt ((b.drop (a + 1)).take 1)
      have h2 : 256 ^ ((b.drop (a + 1)).take 1).length ≤ 256 ^ 1 := Nat.pow_le_pow_right (by decide) (by rw [List.length_take]; omega)
      unfold valB
      omega
    generalize hs : valB b (a + 1) 1 = s at v1 v1'
    have hs64 : IntKind.wrap .i64 (s : Int) = (s : Int) := IntWalk.i64_in _ (by omega)
    have hmin : (if (8 : Int) < (s : Int) then (8 : Int) else (s : Int)) = ((min s 8 : Nat) : Int) := by split <;> omega
    have hm8 : min s 8 ≤ 8 := Nat.min_le_right _ _
    generalize hm : min s 8 = m at hmin hm8
    have hvl := valB_lt b (a + 2) hm8
    generalize hv : valB b (a + 2) m = v at hvl
    have hs2 : IntKind.wrap .i64 (2 + (s : Int)) = 2 + (s : Int) := IntWalk.i64_in _ (by omega)
    by_cases k2 : c.toNat = 2
    · have hv8 : (if (8000 : Int) < (v : Int) then (8000 : Int) else (v : Int)) = ((min v 8000 : Nat) : Int) := by split <;> omega
      have e : oneP b a = (⟨2, 0, ⟨((b.take (min (a + 2 + s + min v 8000) b.length)).drop (a + 2 + s)).toArray⟩, 0⟩, 2 + s + min v 8000) := by
        unfold oneP; rw [h1, if_neg k3, if_pos k2, hs, hm, hv]
      rw [e]
      have hn8 : min v 8000 ≤ 8000 := Nat.min_le_right _ _
      generalize min v 8000 = n at hv8 hn8
      have hn64 : IntKind.wrap .i64 (n : Int) = (n : Int) := IntWalk.i64_in _ (by omega)
      have ha2s : IntKind.wrap .i64 ((a : Int) + 2 + (s : Int)) = (a : Int) + 2 + (s : Int) := IntWalk.i64_in _ (by omega)
      have ha2sn : IntKind.wrap .i64 ((a : Int) + 2 + (s : Int) + (n : Int)) = (a : Int) + 2 + (s : Int) + (n : Int) := IntWalk.i64_in _ (by omega)
      have hend : (if (b.length : Int) < (a : Int) + 2 + (s : Int) + (n : Int) then (b.length : Int) else (a : Int) + 2 + (s : Int) + (n : Int)) = ((min (a + 2 + s + n) b.length : Nat) : Int) := by split <;> omega
      have hE : min (a + 2 + s + n) b.length ≤ b.length := Nat.min_le_right _ _
      generalize min (a + 2 + s + n) b.length = E at hend hE ⊢
      have hlo : (if (E : Int) < (a : Int) + 2 + (s : Int) then (E : Int) else (a : Int) + 2 + (s : Int)) = ((min (a + 2 + s) E : Nat) : Int) := by split <;> omega
      have htx : (b.drop (min (a + 2 + s) E)).take (E - min (a + 2 + s) E) = (b.take E).drop (a + 2 + s) := by
        rw [← List.drop_take]
        by_cases hh : a + 2 + s ≤ E
        · rw [Nat.min_eq_left hh]
        · rw [Nat.min_eq_right (by omega), List.drop_eq_nil_iff.2 (by rw [List.length_take]; omega), List.drop_eq_nil_iff.2 (by rw [List.length_take]; omega)]
      have hL : min (a + 2 + s) E ≤ E := Nat.min_le_right _ _
      generalize min (a + 2 + s) E = L at hlo htx hL
      have h2sn : IntKind.wrap .i64 (2 + (s : Int) + (n : Int)) = 2 + (s : Int) + (n : Int) := IntWalk.i64_in _ (by omega)
      repeat' first
          | with_reducible refine wp_regionS (seg_eval (by simp -dsimp -implicitDefEqProofs [hc, k2, w2, hw1, t1, hw2, t2, hs, hs64, hmin, hv, hv8, hn64, ha2s, ha2sn, hend, hlo, htx, hs2, h2sn]; rfl) ?_)
          | with_reducible refine wp_region (seg_eval (by simp -dsimp -implicitDefEqProofs [hc, k2, w2, hw1, t1, hw2, t2, hs, hs64, hmin, hv, hv8, hn64, ha2s, ha2sn, hend, hlo, htx, hs2, h2sn]; rfl) ?_)
          | with_reducible refine wp_drawsS (seg_eval (by simp -dsimp -implicitDefEqProofs [hc, k2, w2, hw1, t1, hw2, t2, hs, hs64, hmin, hv, hv8, hn64, ha2s, ha2sn, hend, hlo, htx, hs2, h2sn]; rfl) ?_)
          | with_reducible refine wp_draws (seg_eval (by simp -dsimp -implicitDefEqProofs [hc, k2, w2, hw1, t1, hw2, t2, hs, hs64, hmin, hv, hv8, hn64, ha2s, ha2sn, hend, hlo, htx, hs2, h2sn]; rfl) ?_)
          | with_reducible refine seg_fin ?_
          | with_reducible refine seg_pan ?_
          | with_reducible refine seg_both ?_ ?_
          | with_reducible refine seg_case (fun x h => ?_) (fun h => ?_)
          | with_reducible refine seg_gate (fun h => ?_) (fun h => ?_)
          | with_reducible refine seg_need ?_ ?_
          | with_reducible refine wp_assoc ?_ | with_reducible refine wp_skipS ?_ | with_reducible refine wp_retS ?_ | with_reducible refine wp_exitS ?_ | with_reducible refine wp_dropS (wp_eqT (by simp -dsimp -implicitDefEqProofs [hc, k2, w2, hw1, t1, hw2, t2, hs, hs64, hmin, hv, hv8, hn64, ha2s, ha2sn, hend, hlo, htx, hs2, h2sn]; rfl) ?_) | with_reducible refine wp_sealS (by simp -dsimp -implicitDefEqProofs [hc, k2, w2, hw1, t1, hw2, t2, hs, hs64, hmin, hv, hv8, hn64, ha2s, ha2sn, hend, hlo, htx, hs2, h2sn]; rfl) ?_ | with_reducible refine wp_seal (by simp -dsimp -implicitDefEqProofs [hc, k2, w2, hw1, t1, hw2, t2, hs, hs64, hmin, hv, hv8, hn64, ha2s, ha2sn, hend, hlo, htx, hs2, h2sn]; rfl) ?_ | with_reducible refine wp_blockS ?_ | with_reducible refine wp_skip' ?_ | with_reducible refine wp_ret' ?_ | with_reducible refine wp_exit' ?_ | with_reducible refine wp_drop (wp_eqT (by simp -dsimp -implicitDefEqProofs [hc, k2, w2, hw1, t1, hw2, t2, hs, hs64, hmin, hv, hv8, hn64, ha2s, ha2sn, hend, hlo, htx, hs2, h2sn]; rfl) ?_) | with_reducible refine wp_block' ?_
          | with_reducible refine wp_condVS (by simp -dsimp -implicitDefEqProofs [hc, k2, w2, hw1, t1, hw2, t2, hs, hs64, hmin, hv, hv8, hn64, ha2s, ha2sn, hend, hlo, htx, hs2, h2sn]; rfl) ?_
          | with_reducible refine wp_condV (by simp -dsimp -implicitDefEqProofs [hc, k2, w2, hw1, t1, hw2, t2, hs, hs64, hmin, hv, hv8, hn64, ha2s, ha2sn, hend, hlo, htx, hs2, h2sn]; rfl) ?_
          | with_reducible refine cond_t ?_ | with_reducible refine cond_f ?_ | with_reducible refine cond_v (fun h => ?_) (fun h => ?_)
          | with_reducible refine post_then ?_ | with_reducible refine post_thenE ?_ | with_reducible refine post_thenP ?_ | with_reducible refine post_blkP ?_ | with_reducible refine post_thenR ?_ | with_reducible refine post_blkN ?_ | with_reducible refine post_blkE ?_ | with_reducible refine post_blkF rfl ?_ | with_reducible refine post_blkR ?_
          | with_reducible refine seg_eval (by simp -dsimp -implicitDefEqProofs [hc, k2, w2, hw1, t1, hw2, t2, hs, hs64, hmin, hv, hv8, hn64, ha2s, ha2sn, hend, hlo, htx, hs2, h2sn]; rfl) ?_
      all_goals first
        | omega
        | exact post_fin rfl rfl ⟨[], [], rfl, rfl, rfl, rfl⟩
        | trace_state
    · have b2 : ((c.toNat : Int) == 2) = false := by rw [beq_eq_false_iff_ne]; omega
      have e : oneP b a = (⟨c.toNat, v, ⟨#[]⟩, 0⟩, 2 + s) := by unfold oneP; rw [h1, if_neg k3, if_neg k2, hs, hm, hv]
      rw [e]
      repeat' first
          | with_reducible refine wp_regionS (seg_eval (by simp -dsimp -implicitDefEqProofs [hc, hc64, b3, b2, hw1, t1, hw2, t2, hs, hs64, hmin, hv, hs2]; rfl) ?_)
          | with_reducible refine wp_region (seg_eval (by simp -dsimp -implicitDefEqProofs [hc, hc64, b3, b2, hw1, t1, hw2, t2, hs, hs64, hmin, hv, hs2]; rfl) ?_)
          | with_reducible refine wp_drawsS (seg_eval (by simp -dsimp -implicitDefEqProofs [hc, hc64, b3, b2, hw1, t1, hw2, t2, hs, hs64, hmin, hv, hs2]; rfl) ?_)
          | with_reducible refine wp_draws (seg_eval (by simp -dsimp -implicitDefEqProofs [hc, hc64, b3, b2, hw1, t1, hw2, t2, hs, hs64, hmin, hv, hs2]; rfl) ?_)
          | with_reducible refine seg_fin ?_
          | with_reducible refine seg_pan ?_
          | with_reducible refine seg_both ?_ ?_
          | with_reducible refine seg_case (fun x h => ?_) (fun h => ?_)
          | with_reducible refine seg_gate (fun h => ?_) (fun h => ?_)
          | with_reducible refine seg_need ?_ ?_
          | with_reducible refine wp_assoc ?_ | with_reducible refine wp_skipS ?_ | with_reducible refine wp_retS ?_ | with_reducible refine wp_exitS ?_ | with_reducible refine wp_dropS (wp_eqT (by simp -dsimp -implicitDefEqProofs [hc, hc64, b3, b2, hw1, t1, hw2, t2, hs, hs64, hmin, hv, hs2]; rfl) ?_) | with_reducible refine wp_sealS (by simp -dsimp -implicitDefEqProofs [hc, hc64, b3, b2, hw1, t1, hw2, t2, hs, hs64, hmin, hv, hs2]; rfl) ?_ | with_reducible refine wp_seal (by simp -dsimp -implicitDefEqProofs [hc, hc64, b3, b2, hw1, t1, hw2, t2, hs, hs64, hmin, hv, hs2]; rfl) ?_ | with_reducible refine wp_blockS ?_ | with_reducible refine wp_skip' ?_ | with_reducible refine wp_ret' ?_ | with_reducible refine wp_exit' ?_ | with_reducible refine wp_drop (wp_eqT (by simp -dsimp -implicitDefEqProofs [hc, hc64, b3, b2, hw1, t1, hw2, t2, hs, hs64, hmin, hv, hs2]; rfl) ?_) | with_reducible refine wp_block' ?_
          | with_reducible refine wp_condVS (by simp -dsimp -implicitDefEqProofs [hc, hc64, b3, b2, hw1, t1, hw2, t2, hs, hs64, hmin, hv, hs2]; rfl) ?_
          | with_reducible refine wp_condV (by simp -dsimp -implicitDefEqProofs [hc, hc64, b3, b2, hw1, t1, hw2, t2, hs, hs64, hmin, hv, hs2]; rfl) ?_
          | with_reducible refine cond_t ?_ | with_reducible refine cond_f ?_ | with_reducible refine cond_v (fun h => ?_) (fun h => ?_)
          | with_reducible refine post_then ?_ | with_reducible refine post_thenE ?_ | with_reducible refine post_thenP ?_ | with_reducible refine post_blkP ?_ | with_reducible refine post_thenR ?_ | with_reducible refine post_blkN ?_ | with_reducible refine post_blkE ?_ | with_reducible refine post_blkF rfl ?_ | with_reducible refine post_blkR ?_
          | with_reducible refine seg_eval (by simp -dsimp -implicitDefEqProofs [hc, hc64, b3, b2, hw1, t1, hw2, t2, hs, hs64, hmin, hv, hs2]; rfl) ?_
      all_goals first
        | omega
        | exact post_fin rfl rfl ⟨[], [], rfl, rfl, rfl, rfl⟩
        | trace_state

def E20 : Env := E18.put 39 [] (fixS [1] spOne)
theorem E20_ok : EnvOk Try.prog E20 := Env.put_ok _ E18_ok (one_ok.fix _)
attribute [simp] E20 spOne
end Go.Proofs.Ytifchnkhnphibaa.Am
