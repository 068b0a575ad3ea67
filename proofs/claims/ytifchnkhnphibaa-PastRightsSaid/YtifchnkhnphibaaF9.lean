import Derived.Test.YtifchnkhnphibaaF8
import Derived.Test.YtifchnkhnphibaaP3
namespace Go.Proofs.Ytifchnkhnphibaa.Am
set_option linter.unusedSimpArgs false
set_option linter.unusedVariables false
open Go Go.Proofs
attribute [local irreducible] wpA

def torn : AV := .ifc 76 (.agg [])
attribute [simp] torn

def spTake : Spec
  | [.ptr 0 0 0, .v (.int .i64 n)], [.var [.fsl 1 es]] => if 0 ≤ n then (inB es).bind fun l => bif decide (n.toNat ≤ l.length) then some (.ret (.fsl 1 (bv (l.take n.toNat))), [.var [.fsl 1 (bv (l.drop n.toNat))]]) else some (.pan torn, [.gone]) else none
  | _, _ => none

theorem take_ok : CallOk Try.prog 37 spTake := by
  refine ok_37 E7b_ok spTake fun args mem r mem1 h => ?_
  unfold spTake at h
  split at h
  case h_2 => cases h
  rename_i n es
  obtain ⟨hn, h1⟩ := if_some h
  clear h
  obtain ⟨l, hl, h2⟩ := Option.bind_eq_some_iff.1 h1
  clear h1
  have := inB_some es l hl
  subst this
  clear hl
  obtain ⟨m, rfl⟩ := Int.eq_ofNat_of_zero_le hn
  simp only [Int.toNat_natCast] at h2
  unfold ac_37
  by_cases hm : m ≤ l.length
  · simp only [hm, decide_true, cond_true] at h2
    cases h2
    have hd : decide (l.length < m) = false := by simp; omega
    repeat' first
        | with_reducible refine wp_regionS (seg_eval (by simp -dsimp -implicitDefEqProofs [hd]; rfl) ?_)
        | with_reducible refine wp_region (seg_eval (by simp -dsimp -implicitDefEqProofs [hd]; rfl) ?_)
        | with_reducible refine wp_drawsS (seg_eval (by simp -dsimp -implicitDefEqProofs [hd]; rfl) ?_)
        | with_reducible refine wp_draws (seg_eval (by simp -dsimp -implicitDefEqProofs [hd]; rfl) ?_)
        | with_reducible refine seg_fin ?_
        | with_reducible refine seg_pan ?_
        | with_reducible refine seg_both ?_ ?_
        | with_reducible refine seg_case (fun x h => ?_) (fun h => ?_)
        | with_reducible refine seg_gate (fun h => ?_) (fun h => ?_)
        | with_reducible refine seg_need ?_ ?_
        | with_reducible refine wp_assoc ?_ | with_reducible refine wp_skipS ?_ | with_reducible refine wp_retS ?_ | with_reducible refine wp_exitS ?_ | with_reducible refine wp_dropS (wp_eqT (by simp -dsimp -implicitDefEqProofs [hd]; rfl) ?_) | with_reducible refine wp_sealS (by simp -dsimp -implicitDefEqProofs [hd]; rfl) ?_ | with_reducible refine wp_seal (by simp -dsimp -implicitDefEqProofs [hd]; rfl) ?_ | with_reducible refine wp_blockS ?_ | with_reducible refine wp_skip' ?_ | with_reducible refine wp_ret' ?_ | with_reducible refine wp_exit' ?_ | with_reducible refine wp_drop (wp_eqT (by simp -dsimp -implicitDefEqProofs [hd]; rfl) ?_) | with_reducible refine wp_block' ?_
        | with_reducible refine wp_condVS (by simp -dsimp -implicitDefEqProofs [hd]; rfl) ?_
        | with_reducible refine wp_condV (by simp -dsimp -implicitDefEqProofs [hd]; rfl) ?_
        | with_reducible refine cond_t ?_ | with_reducible refine cond_f ?_ | with_reducible refine cond_v (fun h => ?_) (fun h => ?_)
        | with_reducible refine post_then ?_ | with_reducible refine post_thenE ?_ | with_reducible refine post_thenP ?_ | with_reducible refine post_blkP ?_ | with_reducible refine post_thenR ?_ | with_reducible refine post_blkN ?_ | with_reducible refine post_blkE ?_ | with_reducible refine post_blkF rfl ?_ | with_reducible refine post_blkR ?_
        | with_reducible refine seg_eval (by simp -dsimp -implicitDefEqProofs [hd]; rfl) ?_
    · omega
    · omega
    · have e : (l.drop m).take (l.length - m) = l.drop m := List.take_of_length_le (by simp)
      rw [e]
      exact post_fin rfl rfl ⟨[], [0], rfl, rfl, rfl, rfl⟩
  · simp only [hm, decide_false, cond_false] at h2
    cases h2
    have hd : decide (l.length < m) = true := by simp; omega
    repeat' first
        | with_reducible refine wp_regionS (seg_eval (by simp -dsimp -implicitDefEqProofs [hd]; rfl) ?_)
        | with_reducible refine wp_region (seg_eval (by simp -dsimp -implicitDefEqProofs [hd]; rfl) ?_)
        | with_reducible refine wp_drawsS (seg_eval (by simp -dsimp -implicitDefEqProofs [hd]; rfl) ?_)
        | with_reducible refine wp_draws (seg_eval (by simp -dsimp -implicitDefEqProofs [hd]; rfl) ?_)
        | with_reducible refine seg_fin ?_
        | with_reducible refine seg_pan ?_
        | with_reducible refine seg_both ?_ ?_
        | with_reducible refine seg_case (fun x h => ?_) (fun h => ?_)
        | with_reducible refine seg_gate (fun h => ?_) (fun h => ?_)
        | with_reducible refine seg_need ?_ ?_
        | with_reducible refine wp_assoc ?_ | with_reducible refine wp_skipS ?_ | with_reducible refine wp_retS ?_ | with_reducible refine wp_exitS ?_ | with_reducible refine wp_dropS (wp_eqT (by simp -dsimp -implicitDefEqProofs [hd]; rfl) ?_) | with_reducible refine wp_sealS (by simp -dsimp -implicitDefEqProofs [hd]; rfl) ?_ | with_reducible refine wp_seal (by simp -dsimp -implicitDefEqProofs [hd]; rfl) ?_ | with_reducible refine wp_blockS ?_ | with_reducible refine wp_skip' ?_ | with_reducible refine wp_ret' ?_ | with_reducible refine wp_exit' ?_ | with_reducible refine wp_drop (wp_eqT (by simp -dsimp -implicitDefEqProofs [hd]; rfl) ?_) | with_reducible refine wp_block' ?_
        | with_reducible refine wp_condVS (by simp -dsimp -implicitDefEqProofs [hd]; rfl) ?_
        | with_reducible refine wp_condV (by simp -dsimp -implicitDefEqProofs [hd]; rfl) ?_
        | with_reducible refine cond_t ?_ | with_reducible refine cond_f ?_ | with_reducible refine cond_v (fun h => ?_) (fun h => ?_)
        | with_reducible refine post_then ?_ | with_reducible refine post_thenE ?_ | with_reducible refine post_thenP ?_ | with_reducible refine post_blkP ?_ | with_reducible refine post_thenR ?_ | with_reducible refine post_blkN ?_ | with_reducible refine post_blkE ?_ | with_reducible refine post_blkF rfl ?_ | with_reducible refine post_blkR ?_
        | with_reducible refine seg_eval (by simp -dsimp -implicitDefEqProofs [hd]; rfl) ?_
    exact post_finP [0] _ ⟨[], [0], rfl, rfl, rfl, rfl⟩ rfl

def E9 : Env := E7b.put 37 [true] spTake
theorem E9_ok : EnvOk Try.prog E9 := Env.put_ok _ E7b_ok take_ok
attribute [simp] E9 spTake

def spRlow : Spec
  | [.ptr 0 0 0, .v (.int .i64 n)], [.var [.fsl 1 es]] => if 0 ≤ n ∧ n ≤ 8 then (inB es).bind fun l => bif decide (n.toNat ≤ l.length) then some (.ret (.v (.int .u64 (leB (l.take n.toNat)))), [.var [.fsl 1 (bv (l.drop n.toNat))]]) else some (.pan torn, [.gone]) else none
  | _, _ => none

theorem rlow_ok : CallOk Try.prog 47 spRlow := by
  refine ok_47 E9_ok spRlow fun args mem r mem1 h => ?_
  unfold spRlow at h
  split at h
  case h_2 => cases h
  rename_i n es
  obtain ⟨hn, h1⟩ := if_some h
  clear h
  obtain ⟨l, hl, h2⟩ := Option.bind_eq_some_iff.1 h1
  clear h1
  have := inB_some es l hl
  subst this
  clear hl
  obtain ⟨m, rfl⟩ := Int.eq_ofNat_of_zero_le hn.1
  simp only [Int.toNat_natCast] at h2
  unfold ac_47
  by_cases hm : m ≤ l.length
  · have hd : decide (m ≤ l.length) = true := by simp [hm]
    simp only [hd, cond_true] at h2
    cases h2
    have hmin : min m l.length = m := Nat.min_eq_left hm
    repeat' first
        | with_reducible refine wp_regionS (seg_eval (by simp -dsimp -implicitDefEqProofs [hd, hmin]; rfl) ?_)
        | with_reducible refine wp_region (seg_eval (by simp -dsimp -implicitDefEqProofs [hd, hmin]; rfl) ?_)
        | with_reducible refine wp_drawsS (seg_eval (by simp -dsimp -implicitDefEqProofs [hd, hmin]; rfl) ?_)
        | with_reducible refine wp_draws (seg_eval (by simp -dsimp -implicitDefEqProofs [hd, hmin]; rfl) ?_)
        | with_reducible refine seg_fin ?_
        | with_reducible refine seg_pan ?_
        | with_reducible refine seg_both ?_ ?_
        | with_reducible refine seg_case (fun x h => ?_) (fun h => ?_)
        | with_reducible refine seg_gate (fun h => ?_) (fun h => ?_)
        | with_reducible refine seg_need ?_ ?_
        | with_reducible refine wp_assoc ?_ | with_reducible refine wp_skipS ?_ | with_reducible refine wp_retS ?_ | with_reducible refine wp_exitS ?_ | with_reducible refine wp_dropS (wp_eqT (by simp -dsimp -implicitDefEqProofs [hd, hmin]; rfl) ?_) | with_reducible refine wp_sealS (by simp -dsimp -implicitDefEqProofs [hd, hmin]; rfl) ?_ | with_reducible refine wp_seal (by simp -dsimp -implicitDefEqProofs [hd, hmin]; rfl) ?_ | with_reducible refine wp_blockS ?_ | with_reducible refine wp_skip' ?_ | with_reducible refine wp_ret' ?_ | with_reducible refine wp_exit' ?_ | with_reducible refine wp_drop (wp_eqT (by simp -dsimp -implicitDefEqProofs [hd, hmin]; rfl) ?_) | with_reducible refine wp_block' ?_
        | with_reducible refine wp_condVS (by simp -dsimp -implicitDefEqProofs [hd, hmin]; rfl) ?_
        | with_reducible refine wp_condV (by simp -dsimp -implicitDefEqProofs [hd, hmin]; rfl) ?_
        | with_reducible refine cond_t ?_ | with_reducible refine cond_f ?_ | with_reducible refine cond_v (fun h => ?_) (fun h => ?_)
        | with_reducible refine post_then ?_ | with_reducible refine post_thenE ?_ | with_reducible refine post_thenP ?_ | with_reducible refine post_blkP ?_ | with_reducible refine post_thenR ?_ | with_reducible refine post_blkN ?_ | with_reducible refine post_blkE ?_ | with_reducible refine post_blkF rfl ?_ | with_reducible refine post_blkR ?_
        | with_reducible refine seg_eval (by simp -dsimp -implicitDefEqProofs [hd, hmin]; rfl) ?_
    refine wp_loop' (fun j ts mm => ∃ i : Nat, i + j = m ∧ ts = [(5, .v (.int .u64 (leB (l.take i)))), (10, .fsl 1 (bv (l.take m))), (11, .v (.int .i64 m)), (12, .v (.int .i64 i))] ∧ mm = [.var [.fsl 1 (bv (l.drop m))]]) m ?_ ?_
    · exact ⟨[], [0], rfl, rfl, 0, by omega, by simp [leB], by simp⟩
    · rintro j ts mm ⟨i, hi, rfl, rfl⟩
      by_cases hlt : i < m
      · have h64 : IntKind.wrap .i64 ((i : Int) + 1) = ((i + 1 : Nat) : Int) := by rw [IntWalk.i64_in _ (by omega)]; rfl
        have h8 : IntKind.wrap .i64 (8 * (i : Int)) = 8 * (i : Int) := IntWalk.i64_in _ (by omega)
        have h8n : (8 * (i : Int)).toNat = 8 * i := by omega
        have h8m : min (8 * i) 64 = 8 * i := by omega
        have hd2 : decide (i < m) = true := by simp [hlt]
        obtain ⟨c, hc⟩ : ∃ c, l[i]? = some c := ⟨_, List.getElem?_eq_getElem (by omega)⟩
        have htk := take_snoc hc
        have hlen : (l.take i).length = i := by rw [List.length_take]; omega
        have hle := leB_lt (l.take i)
        rw [hlen] at hle
        have hor := or_shift (leB (l.take i)) c.toNat i hle c.toNat_lt (by omega)
        have hc' : (l.take m)[i]? = some c := by rw [List.getElem?_take, if_pos hlt, hc]
        have hcw : IntKind.wrap .u64 (c.toNat : Int) = (c.toNat : Int) := u64_in _ (by have := c.toNat_lt; omega)
        have e1 : leB (l.take (i + 1)) = leB (l.take i) + 256 ^ i * c.toNat := by rw [htk, leB_append, hlen]; simp [leB]
        repeat' first
            | with_reducible refine wp_regionS (seg_eval (by simp -dsimp -implicitDefEqProofs [hd2, hc', hcw, h8, h8n, h8m, h64]; rfl) ?_)
            | with_reducible refine wp_region (seg_eval (by simp -dsimp -implicitDefEqProofs [hd2, hc', hcw, h8, h8n, h8m, h64]; rfl) ?_)
            | with_reducible refine wp_drawsS (seg_eval (by simp -dsimp -implicitDefEqProofs [hd2, hc', hcw, h8, h8n, h8m, h64]; rfl) ?_)
            | with_reducible refine wp_draws (seg_eval (by simp -dsimp -implicitDefEqProofs [hd2, hc', hcw, h8, h8n, h8m, h64]; rfl) ?_)
            | with_reducible refine seg_fin ?_
            | with_reducible refine seg_pan ?_
            | with_reducible refine seg_both ?_ ?_
            | with_reducible refine seg_case (fun x h => ?_) (fun h => ?_)
            | with_reducible refine seg_gate (fun h => ?_) (fun h => ?_)
            | with_reducible refine seg_need ?_ ?_
            | with_reducible refine wp_assoc ?_ | with_reducible refine wp_skipS ?_ | with_reducible refine wp_retS ?_ | with_reducible refine wp_exitS ?_ | with_reducible refine wp_dropS (wp_eqT (by simp -dsimp -implicitDefEqProofs [hd2, hc', hcw, h8, h8n, h8m, h64]; rfl) ?_) | with_reducible refine wp_sealS (by simp -dsimp -implicitDefEqProofs [hd2, hc', hcw, h8, h8n, h8m, h64]; rfl) ?_ | with_reducible refine wp_seal (by simp -dsimp -implicitDefEqProofs [hd2, hc', hcw, h8, h8n, h8m, h64]; rfl) ?_ | with_reducible refine wp_blockS ?_ | with_reducible refine wp_skip' ?_ | with_reducible refine wp_ret' ?_ | with_reducible refine wp_exit' ?_ | with_reducible refine wp_drop (wp_eqT (by simp -dsimp -implicitDefEqProofs [hd2, hc', hcw, h8, h8n, h8m, h64]; rfl) ?_) | with_reducible refine wp_block' ?_
            | with_reducible refine wp_condVS (by simp -dsimp -implicitDefEqProofs [hd2, hc', hcw, h8, h8n, h8m, h64]; rfl) ?_
            | with_reducible refine wp_condV (by simp -dsimp -implicitDefEqProofs [hd2, hc', hcw, h8, h8n, h8m, h64]; rfl) ?_
            | with_reducible refine cond_t ?_ | with_reducible refine cond_f ?_ | with_reducible refine cond_v (fun h => ?_) (fun h => ?_)
            | with_reducible refine post_then ?_ | with_reducible refine post_thenE ?_ | with_reducible refine post_thenP ?_ | with_reducible refine post_blkP ?_ | with_reducible refine post_thenR ?_ | with_reducible refine post_blkN ?_ | with_reducible refine post_blkE ?_ | with_reducible refine post_blkF rfl ?_ | with_reducible refine post_blkR ?_
            | with_reducible refine seg_eval (by simp -dsimp -implicitDefEqProofs [hd2, hc', hcw, h8, h8n, h8m, h64]; rfl) ?_
        · omega
        · rw [hor, ← e1]
          exact ⟨j - 1, by omega, [], [0], rfl, rfl, i + 1, by omega, by simp [h64], by simp⟩
      · have hd2 : decide (i < m) = false := by simp [hlt]
        repeat' first
            | with_reducible refine wp_regionS (seg_eval (by simp -dsimp -implicitDefEqProofs [hd2]; rfl) ?_)
            | with_reducible refine wp_region (seg_eval (by simp -dsimp -implicitDefEqProofs [hd2]; rfl) ?_)
            | with_reducible refine wp_drawsS (seg_eval (by simp -dsimp -implicitDefEqProofs [hd2]; rfl) ?_)
            | with_reducible refine wp_draws (seg_eval (by simp -dsimp -implicitDefEqProofs [hd2]; rfl) ?_)
            | with_reducible refine seg_fin ?_
            | with_reducible refine seg_pan ?_
            | with_reducible refine seg_both ?_ ?_
            | with_reducible refine seg_case (fun x h => ?_) (fun h => ?_)
            | with_reducible refine seg_gate (fun h => ?_) (fun h => ?_)
            | with_reducible refine seg_need ?_ ?_
            | with_reducible refine wp_assoc ?_ | with_reducible refine wp_skipS ?_ | with_reducible refine wp_retS ?_ | with_reducible refine wp_exitS ?_ | with_reducible refine wp_dropS (wp_eqT (by simp -dsimp -implicitDefEqProofs [hd2]; rfl) ?_) | with_reducible refine wp_sealS (by simp -dsimp -implicitDefEqProofs [hd2]; rfl) ?_ | with_reducible refine wp_seal (by simp -dsimp -implicitDefEqProofs [hd2]; rfl) ?_ | with_reducible refine wp_blockS ?_ | with_reducible refine wp_skip' ?_ | with_reducible refine wp_ret' ?_ | with_reducible refine wp_exit' ?_ | with_reducible refine wp_drop (wp_eqT (by simp -dsimp -implicitDefEqProofs [hd2]; rfl) ?_) | with_reducible refine wp_block' ?_
            | with_reducible refine wp_condVS (by simp -dsimp -implicitDefEqProofs [hd2]; rfl) ?_
            | with_reducible refine wp_condV (by simp -dsimp -implicitDefEqProofs [hd2]; rfl) ?_
            | with_reducible refine cond_t ?_ | with_reducible refine cond_f ?_ | with_reducible refine cond_v (fun h => ?_) (fun h => ?_)
            | with_reducible refine post_then ?_ | with_reducible refine post_thenE ?_ | with_reducible refine post_thenP ?_ | with_reducible refine post_blkP ?_ | with_reducible refine post_thenR ?_ | with_reducible refine post_blkN ?_ | with_reducible refine post_blkE ?_ | with_reducible refine post_blkF rfl ?_ | with_reducible refine post_blkR ?_
            | with_reducible refine seg_eval (by simp -dsimp -implicitDefEqProofs [hd2]; rfl) ?_
        have him : i = m := by omega
        subst him
        exact post_fin rfl rfl ⟨[], [0], rfl, rfl, rfl, by simp⟩
  · have hd : decide (m ≤ l.length) = false := by simp [hm]
    simp only [hd, cond_false] at h2
    cases h2
    repeat' first
        | with_reducible refine wp_regionS (seg_eval (by simp -dsimp -implicitDefEqProofs [hd]; rfl) ?_)
        | with_reducible refine wp_region (seg_eval (by simp -dsimp -implicitDefEqProofs [hd]; rfl) ?_)
        | with_reducible refine wp_drawsS (seg_eval (by simp -dsimp -implicitDefEqProofs [hd]; rfl) ?_)
        | with_reducible refine wp_draws (seg_eval (by simp -dsimp -implicitDefEqProofs [hd]; rfl) ?_)
        | with_reducible refine seg_fin ?_
        | with_reducible refine seg_pan ?_
        | with_reducible refine seg_both ?_ ?_
        | with_reducible refine seg_case (fun x h => ?_) (fun h => ?_)
        | with_reducible refine seg_gate (fun h => ?_) (fun h => ?_)
        | with_reducible refine seg_need ?_ ?_
        | with_reducible refine wp_assoc ?_ | with_reducible refine wp_skipS ?_ | with_reducible refine wp_retS ?_ | with_reducible refine wp_exitS ?_ | with_reducible refine wp_dropS (wp_eqT (by simp -dsimp -implicitDefEqProofs [hd]; rfl) ?_) | with_reducible refine wp_sealS (by simp -dsimp -implicitDefEqProofs [hd]; rfl) ?_ | with_reducible refine wp_seal (by simp -dsimp -implicitDefEqProofs [hd]; rfl) ?_ | with_reducible refine wp_blockS ?_ | with_reducible refine wp_skip' ?_ | with_reducible refine wp_ret' ?_ | with_reducible refine wp_exit' ?_ | with_reducible refine wp_drop (wp_eqT (by simp -dsimp -implicitDefEqProofs [hd]; rfl) ?_) | with_reducible refine wp_block' ?_
        | with_reducible refine wp_condVS (by simp -dsimp -implicitDefEqProofs [hd]; rfl) ?_
        | with_reducible refine wp_condV (by simp -dsimp -implicitDefEqProofs [hd]; rfl) ?_
        | with_reducible refine cond_t ?_ | with_reducible refine cond_f ?_ | with_reducible refine cond_v (fun h => ?_) (fun h => ?_)
        | with_reducible refine post_then ?_ | with_reducible refine post_thenE ?_ | with_reducible refine post_thenP ?_ | with_reducible refine post_blkP ?_ | with_reducible refine post_thenR ?_ | with_reducible refine post_blkN ?_ | with_reducible refine post_blkE ?_ | with_reducible refine post_blkF rfl ?_ | with_reducible refine post_blkR ?_
        | with_reducible refine seg_eval (by simp -dsimp -implicitDefEqProofs [hd]; rfl) ?_
    exact post_finP [0] _ ⟨[], [0], rfl, rfl, rfl, rfl⟩ rfl

def E9b : Env := E9.put 47 [true] spRlow
theorem E9b_ok : EnvOk Try.prog E9b := Env.put_ok _ E9_ok rlow_ok
attribute [simp] E9b spRlow

def spRnumber : Spec
  | [.ptr 0 0 0], [.var [.fsl 1 es]] => (inB es).bind fun l => (decN l).elim (some (.pan torn, [.gone])) fun p => some (.ret (.v (.int .u64 p.1)), [.var [.fsl 1 (bv p.2)]])
  | _, _ => none

theorem rnumber_ok : CallOk Try.prog 45 spRnumber := by
  refine ok_45 E9b_ok spRnumber fun args mem r mem1 h => ?_
  unfold spRnumber at h
  split at h
  case h_2 => cases h
  rename_i es
  obtain ⟨l, hl, h2⟩ := Option.bind_eq_some_iff.1 h
  clear h
  have := inB_some es l hl
  subst this
  clear hl
  unfold ac_45
  cases l with
  | nil =>
    cases h2
    repeat' first
        | with_reducible refine wp_regionS (seg_eval (by simp -dsimp -implicitDefEqProofs; rfl) ?_)
        | with_reducible refine wp_region (seg_eval (by simp -dsimp -implicitDefEqProofs; rfl) ?_)
        | with_reducible refine wp_drawsS (seg_eval (by simp -dsimp -implicitDefEqProofs; rfl) ?_)
        | with_reducible refine wp_draws (seg_eval (by simp -dsimp -implicitDefEqProofs; rfl) ?_)
        | with_reducible refine seg_fin ?_
        | with_reducible refine seg_pan ?_
        | with_reducible refine seg_both ?_ ?_
        | with_reducible refine seg_case (fun x h => ?_) (fun h => ?_)
        | with_reducible refine seg_gate (fun h => ?_) (fun h => ?_)
        | with_reducible refine seg_need ?_ ?_
        | with_reducible refine wp_assoc ?_ | with_reducible refine wp_skipS ?_ | with_reducible refine wp_retS ?_ | with_reducible refine wp_exitS ?_ | with_reducible refine wp_dropS (wp_eqT (by simp -dsimp -implicitDefEqProofs; rfl) ?_) | with_reducible refine wp_sealS (by simp -dsimp -implicitDefEqProofs; rfl) ?_ | with_reducible refine wp_seal (by simp -dsimp -implicitDefEqProofs; rfl) ?_ | with_reducible refine wp_blockS ?_ | with_reducible refine wp_skip' ?_ | with_reducible refine wp_ret' ?_ | with_reducible refine wp_exit' ?_ | with_reducible refine wp_drop (wp_eqT (by simp -dsimp -implicitDefEqProofs; rfl) ?_) | with_reducible refine wp_block' ?_
        | with_reducible refine wp_condVS (by simp -dsimp -implicitDefEqProofs; rfl) ?_
        | with_reducible refine wp_condV (by simp -dsimp -implicitDefEqProofs; rfl) ?_
        | with_reducible refine cond_t ?_ | with_reducible refine cond_f ?_ | with_reducible refine cond_v (fun h => ?_) (fun h => ?_)
        | with_reducible refine post_then ?_ | with_reducible refine post_thenE ?_ | with_reducible refine post_thenP ?_ | with_reducible refine post_blkP ?_ | with_reducible refine post_thenR ?_ | with_reducible refine post_blkN ?_ | with_reducible refine post_blkE ?_ | with_reducible refine post_blkF rfl ?_ | with_reducible refine post_blkR ?_
        | with_reducible refine seg_eval (by simp -dsimp -implicitDefEqProofs; rfl) ?_
    exact post_finP [0] _ ⟨[], [0], rfl, rfl, rfl, rfl⟩ rfl
  | cons c l =>
    have hcl := c.toNat_lt
    have hc64 : IntKind.wrap .i64 (c.toNat : Int) = (c.toNat : Int) := IntWalk.i64_in _ (by omega)
    by_cases h8 : 8 < c.toNat
    · have e : decN (c :: l) = none := by simp [decN, h8]
      rw [e] at h2
      cases h2
      have hd : decide (8 < c.toNat) = true := by simp [h8]
      have hd' : decide (8 < (c.toNat : Int)) = true := by simp; omega
      repeat' first
          | with_reducible refine wp_regionS (seg_eval (by simp -dsimp -implicitDefEqProofs [hc64, hd, hd']; rfl) ?_)
          | with_reducible refine wp_region (seg_eval (by simp -dsimp -implicitDefEqProofs [hc64, hd, hd']; rfl) ?_)
          | with_reducible refine wp_drawsS (seg_eval (by simp -dsimp -implicitDefEqProofs [hc64, hd, hd']; rfl) ?_)
          | with_reducible refine wp_draws (seg_eval (by simp -dsimp -implicitDefEqProofs [hc64, hd, hd']; rfl) ?_)
          | with_reducible refine seg_fin ?_
          | with_reducible refine seg_pan ?_
          | with_reducible refine seg_both ?_ ?_
          | with_reducible refine seg_case (fun x h => ?_) (fun h => ?_)
          | with_reducible refine seg_gate (fun h => ?_) (fun h => ?_)
          | with_reducible refine seg_need ?_ ?_
          | with_reducible refine wp_assoc ?_ | with_reducible refine wp_skipS ?_ | with_reducible refine wp_retS ?_ | with_reducible refine wp_exitS ?_ | with_reducible refine wp_dropS (wp_eqT (by simp -dsimp -implicitDefEqProofs [hc64, hd, hd']; rfl) ?_) | with_reducible refine wp_sealS (by simp -dsimp -implicitDefEqProofs [hc64, hd, hd']; rfl) ?_ | with_reducible refine wp_seal (by simp -dsimp -implicitDefEqProofs [hc64, hd, hd']; rfl) ?_ | with_reducible refine wp_blockS ?_ | with_reducible refine wp_skip' ?_ | with_reducible refine wp_ret' ?_ | with_reducible refine wp_exit' ?_ | with_reducible refine wp_drop (wp_eqT (by simp -dsimp -implicitDefEqProofs [hc64, hd, hd']; rfl) ?_) | with_reducible refine wp_block' ?_
          | with_reducible refine wp_condVS (by simp -dsimp -implicitDefEqProofs [hc64, hd, hd']; rfl) ?_
          | with_reducible refine wp_condV (by simp -dsimp -implicitDefEqProofs [hc64, hd, hd']; rfl) ?_
          | with_reducible refine cond_t ?_ | with_reducible refine cond_f ?_ | with_reducible refine cond_v (fun h => ?_) (fun h => ?_)
          | with_reducible refine post_then ?_ | with_reducible refine post_thenE ?_ | with_reducible refine post_thenP ?_ | with_reducible refine post_blkP ?_ | with_reducible refine post_thenR ?_ | with_reducible refine post_blkN ?_ | with_reducible refine post_blkE ?_ | with_reducible refine post_blkF rfl ?_ | with_reducible refine post_blkR ?_
          | with_reducible refine seg_eval (by simp -dsimp -implicitDefEqProofs [hc64, hd, hd']; rfl) ?_
      exact post_finP [0] _ ⟨[], [0], rfl, rfl, rfl, rfl⟩ rfl
    have hd : decide (8 < c.toNat) = false := by simp [h8]
    have hd' : decide (8 < (c.toNat : Int)) = false := by simp; omega
    by_cases hll : l.length < c.toNat
    · have e : decN (c :: l) = none := by simp [decN, hll]
      rw [e] at h2
      cases h2
      have hd2 : decide (c.toNat ≤ l.length) = false := by simp; omega
      repeat' first
          | with_reducible refine wp_regionS (seg_eval (by simp -dsimp -implicitDefEqProofs [hc64, hd, hd', hd2]; rfl) ?_)
          | with_reducible refine wp_region (seg_eval (by simp -dsimp -implicitDefEqProofs [hc64, hd, hd', hd2]; rfl) ?_)
          | with_reducible refine wp_drawsS (seg_eval (by simp -dsimp -implicitDefEqProofs [hc64, hd, hd', hd2]; rfl) ?_)
          | with_reducible refine wp_draws (seg_eval (by simp -dsimp -implicitDefEqProofs [hc64, hd, hd', hd2]; rfl) ?_)
          | with_reducible refine seg_fin ?_
          | with_reducible refine seg_pan ?_
          | with_reducible refine seg_both ?_ ?_
          | with_reducible refine seg_case (fun x h => ?_) (fun h => ?_)
          | with_reducible refine seg_gate (fun h => ?_) (fun h => ?_)
          | with_reducible refine seg_need ?_ ?_
          | with_reducible refine wp_assoc ?_ | with_reducible refine wp_skipS ?_ | with_reducible refine wp_retS ?_ | with_reducible refine wp_exitS ?_ | with_reducible refine wp_dropS (wp_eqT (by simp -dsimp -implicitDefEqProofs [hc64, hd, hd', hd2]; rfl) ?_) | with_reducible refine wp_sealS (by simp -dsimp -implicitDefEqProofs [hc64, hd, hd', hd2]; rfl) ?_ | with_reducible refine wp_seal (by simp -dsimp -implicitDefEqProofs [hc64, hd, hd', hd2]; rfl) ?_ | with_reducible refine wp_blockS ?_ | with_reducible refine wp_skip' ?_ | with_reducible refine wp_ret' ?_ | with_reducible refine wp_exit' ?_ | with_reducible refine wp_drop (wp_eqT (by simp -dsimp -implicitDefEqProofs [hc64, hd, hd', hd2]; rfl) ?_) | with_reducible refine wp_block' ?_
          | with_reducible refine wp_condVS (by simp -dsimp -implicitDefEqProofs [hc64, hd, hd', hd2]; rfl) ?_
          | with_reducible refine wp_condV (by simp -dsimp -implicitDefEqProofs [hc64, hd, hd', hd2]; rfl) ?_
          | with_reducible refine cond_t ?_ | with_reducible refine cond_f ?_ | with_reducible refine cond_v (fun h => ?_) (fun h => ?_)
          | with_reducible refine post_then ?_ | with_reducible refine post_thenE ?_ | with_reducible refine post_thenP ?_ | with_reducible refine post_blkP ?_ | with_reducible refine post_thenR ?_ | with_reducible refine post_blkN ?_ | with_reducible refine post_blkE ?_ | with_reducible refine post_blkF rfl ?_ | with_reducible refine post_blkR ?_
          | with_reducible refine seg_eval (by simp -dsimp -implicitDefEqProofs [hc64, hd, hd', hd2]; rfl) ?_
      · omega
      · exact post_finP [0] _ ⟨[], [0], rfl, rfl, rfl, rfl⟩ rfl
    have hd2 : decide (c.toNat ≤ l.length) = true := by simp; omega
    have hd3 : decide (0 < (c.toNat : Int)) = decide (0 < c.toNat) := by simp
    by_cases h0 : 0 < c.toNat
    · have hw1 : IntKind.wrap .i64 ((c.toNat : Int) - 1) = ((c.toNat - 1 : Nat) : Int) := by rw [IntWalk.i64_in _ (by omega)]; omega
      have hw2 : IntKind.wrap .i64 (8 * ((c.toNat - 1 : Nat) : Int)) = ((8 * (c.toNat - 1) : Nat) : Int) := by rw [IntWalk.i64_in _ (by omega)]; omega
      have hd0 : decide (0 < c.toNat) = true := by simp [h0]
      have hp : ((leB (l.take c.toNat) : Int).fdiv (2 ^ min (8 * ((c.toNat - 1 : Nat) : Int)).toNat 64) == 0) = decide (leB (l.take c.toNat) / 256 ^ (c.toNat - 1) = 0) := by
        have e1 : min (8 * ((c.toNat - 1 : Nat) : Int)).toNat 64 = 8 * (c.toNat - 1) := by omega
        have e256 : (256 : Nat) ^ (c.toNat - 1) = 2 ^ (8 * (c.toNat - 1)) := by rw [Nat.pow_mul]
        rw [e1, e256, Int.fdiv_eq_ediv_of_nonneg _ (Int.pow_nonneg (by decide)), Bool.eq_iff_iff, beq_iff_eq, decide_eq_true_eq]
        norm_cast
      by_cases hz : leB (l.take c.toNat) / 256 ^ (c.toNat - 1) = 0
      · have e : decN (c :: l) = none := by simp [decN, h0, hz]
        rw [e] at h2
        cases h2
        have hdz : decide (leB (l.take c.toNat) / 256 ^ (c.toNat - 1) = 0) = true := by simp [hz]
        rw [hdz] at hp
        repeat' first
            | with_reducible refine wp_regionS (seg_eval (by simp -dsimp -implicitDefEqProofs [hc64, hd, hd', hd2, hd3, hd0, hw1, hw2, hp]; rfl) ?_)
            | with_reducible refine wp_region (seg_eval (by simp -dsimp -implicitDefEqProofs [hc64, hd, hd', hd2, hd3, hd0, hw1, hw2, hp]; rfl) ?_)
            | with_reducible refine wp_drawsS (seg_eval (by simp -dsimp -implicitDefEqProofs [hc64, hd, hd', hd2, hd3, hd0, hw1, hw2, hp]; rfl) ?_)
            | with_reducible refine wp_draws (seg_eval (by simp -dsimp -implicitDefEqProofs [hc64, hd, hd', hd2, hd3, hd0, hw1, hw2, hp]; rfl) ?_)
            | with_reducible refine seg_fin ?_
            | with_reducible refine seg_pan ?_
            | with_reducible refine seg_both ?_ ?_
            | with_reducible refine seg_case (fun x h => ?_) (fun h => ?_)
            | with_reducible refine seg_gate (fun h => ?_) (fun h => ?_)
            | with_reducible refine seg_need ?_ ?_
            | with_reducible refine wp_assoc ?_ | with_reducible refine wp_skipS ?_ | with_reducible refine wp_retS ?_ | with_reducible refine wp_exitS ?_ | with_reducible refine wp_dropS (wp_eqT (by simp -dsimp -implicitDefEqProofs [hc64, hd, hd', hd2, hd3, hd0, hw1, hw2, hp]; rfl) ?_) | with_reducible refine wp_sealS (by simp -dsimp -implicitDefEqProofs [hc64, hd, hd', hd2, hd3, hd0, hw1, hw2, hp]; rfl) ?_ | with_reducible refine wp_seal (by simp -dsimp -implicitDefEqProofs [hc64, hd, hd', hd2, hd3, hd0, hw1, hw2, hp]; rfl) ?_ | with_reducible refine wp_blockS ?_ | with_reducible refine wp_skip' ?_ | with_reducible refine wp_ret' ?_ | with_reducible refine wp_exit' ?_ | with_reducible refine wp_drop (wp_eqT (by simp -dsimp -implicitDefEqProofs [hc64, hd, hd', hd2, hd3, hd0, hw1, hw2, hp]; rfl) ?_) | with_reducible refine wp_block' ?_
            | with_reducible refine wp_condVS (by simp -dsimp -implicitDefEqProofs [hc64, hd, hd', hd2, hd3, hd0, hw1, hw2, hp]; rfl) ?_
            | with_reducible refine wp_condV (by simp -dsimp -implicitDefEqProofs [hc64, hd, hd', hd2, hd3, hd0, hw1, hw2, hp]; rfl) ?_
            | with_reducible refine cond_t ?_ | with_reducible refine cond_f ?_ | with_reducible refine cond_v (fun h => ?_) (fun h => ?_)
            | with_reducible refine post_then ?_ | with_reducible refine post_thenE ?_ | with_reducible refine post_thenP ?_ | with_reducible refine post_blkP ?_ | with_reducible refine post_thenR ?_ | with_reducible refine post_blkN ?_ | with_reducible refine post_blkE ?_ | with_reducible refine post_blkF rfl ?_ | with_reducible refine post_blkR ?_
            | with_reducible refine seg_eval (by simp -dsimp -implicitDefEqProofs [hc64, hd, hd', hd2, hd3, hd0, hw1, hw2, hp]; rfl) ?_
        · omega
        · omega
        · exact post_finP [0] _ ⟨[], [0], rfl, rfl, rfl, rfl⟩ rfl
      · have e : decN (c :: l) = some (leB (l.take c.toNat), l.drop c.toNat) := by simp only [decN]; rw [if_neg (by omega)]
        rw [e] at h2
        cases h2
        have hdz : decide (leB (l.take c.toNat) / 256 ^ (c.toNat - 1) = 0) = false := by simp [hz]
        rw [hdz] at hp
        repeat' first
            | with_reducible refine wp_regionS (seg_eval (by simp -dsimp -implicitDefEqProofs [hc64, hd, hd', hd2, hd3, hd0, hw1, hw2, hp]; rfl) ?_)
            | with_reducible refine wp_region (seg_eval (by simp -dsimp -implicitDefEqProofs [hc64, hd, hd', hd2, hd3, hd0, hw1, hw2, hp]; rfl) ?_)
            | with_reducible refine wp_drawsS (seg_eval (by simp -dsimp -implicitDefEqProofs [hc64, hd, hd', hd2, hd3, hd0, hw1, hw2, hp]; rfl) ?_)
            | with_reducible refine wp_draws (seg_eval (by simp -dsimp -implicitDefEqProofs [hc64, hd, hd', hd2, hd3, hd0, hw1, hw2, hp]; rfl) ?_)
            | with_reducible refine seg_fin ?_
            | with_reducible refine seg_pan ?_
            | with_reducible refine seg_both ?_ ?_
            | with_reducible refine seg_case (fun x h => ?_) (fun h => ?_)
            | with_reducible refine seg_gate (fun h => ?_) (fun h => ?_)
            | with_reducible refine seg_need ?_ ?_
            | with_reducible refine wp_assoc ?_ | with_reducible refine wp_skipS ?_ | with_reducible refine wp_retS ?_ | with_reducible refine wp_exitS ?_ | with_reducible refine wp_dropS (wp_eqT (by simp -dsimp -implicitDefEqProofs [hc64, hd, hd', hd2, hd3, hd0, hw1, hw2, hp]; rfl) ?_) | with_reducible refine wp_sealS (by simp -dsimp -implicitDefEqProofs [hc64, hd, hd', hd2, hd3, hd0, hw1, hw2, hp]; rfl) ?_ | with_reducible refine wp_seal (by simp -dsimp -implicitDefEqProofs [hc64, hd, hd', hd2, hd3, hd0, hw1, hw2, hp]; rfl) ?_ | with_reducible refine wp_blockS ?_ | with_reducible refine wp_skip' ?_ | with_reducible refine wp_ret' ?_ | with_reducible refine wp_exit' ?_ | with_reducible refine wp_drop (wp_eqT (by simp -dsimp -implicitDefEqProofs [hc64, hd, hd', hd2, hd3, hd0, hw1, hw2, hp]; rfl) ?_) | with_reducible refine wp_block' ?_
            | with_reducible refine wp_condVS (by simp -dsimp -implicitDefEqProofs [hc64, hd, hd', hd2, hd3, hd0, hw1, hw2, hp]; rfl) ?_
            | with_reducible refine wp_condV (by simp -dsimp -implicitDefEqProofs [hc64, hd, hd', hd2, hd3, hd0, hw1, hw2, hp]; rfl) ?_
            | with_reducible refine cond_t ?_ | with_reducible refine cond_f ?_ | with_reducible refine cond_v (fun h => ?_) (fun h => ?_)
            | with_reducible refine post_then ?_ | with_reducible refine post_thenE ?_ | with_reducible refine post_thenP ?_ | with_reducible refine post_blkP ?_ | with_reducible refine post_thenR ?_ | with_reducible refine post_blkN ?_ | with_reducible refine post_blkE ?_ | with_reducible refine post_blkF rfl ?_ | with_reducible refine post_blkR ?_
            | with_reducible refine seg_eval (by simp -dsimp -implicitDefEqProofs [hc64, hd, hd', hd2, hd3, hd0, hw1, hw2, hp]; rfl) ?_
        · omega
        · omega
        · exact post_fin rfl rfl ⟨[], [0], rfl, rfl, rfl, rfl⟩
    · have e : decN (c :: l) = some (leB (l.take c.toNat), l.drop c.toNat) := by simp only [decN]; rw [if_neg (by omega)]
      rw [e] at h2
      cases h2
      have hd0 : decide (0 < c.toNat) = false := by simp; omega
      repeat' first
          | with_reducible refine wp_regionS (seg_eval (by simp -dsimp -implicitDefEqProofs [hc64, hd, hd', hd2, hd3, hd0]; rfl) ?_)
          | with_reducible refine wp_region (seg_eval (by simp -dsimp -implicitDefEqProofs [hc64, hd, hd', hd2, hd3, hd0]; rfl) ?_)
          | with_reducible refine wp_drawsS (seg_eval (by simp -dsimp -implicitDefEqProofs [hc64, hd, hd', hd2, hd3, hd0]; rfl) ?_)
          | with_reducible refine wp_draws (seg_eval (by simp -dsimp -implicitDefEqProofs [hc64, hd, hd', hd2, hd3, hd0]; rfl) ?_)
          | with_reducible refine seg_fin ?_
          | with_reducible refine seg_pan ?_
          | with_reducible refine seg_both ?_ ?_
          | with_reducible refine seg_case (fun x h => ?_) (fun h => ?_)
          | with_reducible refine seg_gate (fun h => ?_) (fun h => ?_)
          | with_reducible refine seg_need ?_ ?_
          | with_reducible refine wp_assoc ?_ | with_reducible refine wp_skipS ?_ | with_reducible refine wp_retS ?_ | with_reducible refine wp_exitS ?_ | with_reducible refine wp_dropS (wp_eqT (by simp -dsimp -implicitDefEqProofs [hc64, hd, hd', hd2, hd3, hd0]; rfl) ?_) | with_reducible refine wp_sealS (by simp -dsimp -implicitDefEqProofs [hc64, hd, hd', hd2, hd3, hd0]; rfl) ?_ | with_reducible refine wp_seal (by simp -dsimp -implicitDefEqProofs [hc64, hd, hd', hd2, hd3, hd0]; rfl) ?_ | with_reducible refine wp_blockS ?_ | with_reducible refine wp_skip' ?_ | with_reducible refine wp_ret' ?_ | with_reducible refine wp_exit' ?_ | with_reducible refine wp_drop (wp_eqT (by simp -dsimp -implicitDefEqProofs [hc64, hd, hd', hd2, hd3, hd0]; rfl) ?_) | with_reducible refine wp_block' ?_
          | with_reducible refine wp_condVS (by simp -dsimp -implicitDefEqProofs [hc64, hd, hd', hd2, hd3, hd0]; rfl) ?_
          | with_reducible refine wp_condV (by simp -dsimp -implicitDefEqProofs [hc64, hd, hd', hd2, hd3, hd0]; rfl) ?_
          | with_reducible refine cond_t ?_ | with_reducible refine cond_f ?_ | with_reducible refine cond_v (fun h => ?_) (fun h => ?_)
          | with_reducible refine post_then ?_ | with_reducible refine post_thenE ?_ | with_reducible refine post_thenP ?_ | with_reducible refine post_blkP ?_ | with_reducible refine post_thenR ?_ | with_reducible refine post_blkN ?_ | with_reducible refine post_blkE ?_ | with_reducible refine post_blkF rfl ?_ | with_reducible refine post_blkR ?_
          | with_reducible refine seg_eval (by simp -dsimp -implicitDefEqProofs [hc64, hd, hd', hd2, hd3, hd0]; rfl) ?_
      · omega
      · exact post_fin rfl rfl ⟨[], [0], rfl, rfl, rfl, rfl⟩

def E9c : Env := E9b.put 45 [true] spRnumber
theorem E9c_ok : EnvOk Try.prog E9c := Env.put_ok _ E9b_ok rnumber_ok
attribute [simp] E9c spRnumber
end Go.Proofs.Ytifchnkhnphibaa.Am
