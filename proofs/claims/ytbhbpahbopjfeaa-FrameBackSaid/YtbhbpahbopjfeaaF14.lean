import Derived.Test.YtbhbpahbopjfeaaF13
import Derived.Test.YtbhbpahbopjfeaaP4
namespace Go.Proofs.Ytbhbpahbopjfeaa.Am
set_option linter.unusedSimpArgs false
set_option linter.unusedVariables false
open Go Go.Proofs
attribute [local irreducible] wpA

/-! ### Few fields -/
def sumW : List Fld → Int → Int
  | [], s => s
  | f :: l, s => sumW l (IntKind.wrap .i64 (s + f.text.size))
theorem sumW_snoc (f : Fld) : ∀ (l : List Fld) (s : Int), sumW (l ++ [f]) s = IntKind.wrap .i64 (sumW l s + f.text.size)
  | [], s => rfl
  | g :: l, s => by simp only [List.cons_append, sumW, sumW_snoc f l]
def fewB (l : List Fld) : Bool := decide (l.length ≤ 210) && decide (sumW l 0 ≤ 9000)
theorem fewB_len {l : List Fld} (h : fewB l = true) : l.length ≤ 210 := by
  simp only [fewB, Bool.and_eq_true, decide_eq_true_eq] at h; exact h.1

def spFew : Spec
  | [.fsl 4 es], [] => (uns un2 es).bind fun l => if l.length ≤ 9223372036854775807 then some (.ret (.v (.bool (fewB l))), []) else none
  | _, _ => none

set_option maxHeartbeats 1000000 in
theorem few_ok : CallOk Try.prog 15 spFew := by
  refine ok_15 E12b_ok spFew fun args mem r mem1 h => ?_
  unfold spFew at h
  split at h
  case h_2 => cases h
  rename_i es
  obtain ⟨l, hl, h2⟩ := Option.bind_eq_some_iff.1 h
  clear h
  have := uns2_some hl
  subst this
  clear hl
  obtain ⟨hsz, h3⟩ := if_some h2
  clear h2
  cases h3
  unfold ac_15
  repeat' first
      | with_reducible refine wp_regionS (seg_eval (by simp -dsimp -implicitDefEqProofs; rfl) ?_)
      | with_reducible refine wp_region (seg_eval (by simp -dsimp -implicitDefEqProofs; rfl) ?_)
      | with_reducible refine wp_drawsS (seg_eval (by simp -dsimp -implicitDefEqProofs; rfl) ?_)
      | with_reducible refine wp_draws (seg_eval (by simp -dsimp -implicitDefEqProofs; rfl) ?_)
      | with_reducible refine seg_fin ?_
      | with_reducible refine seg_pan ?_
      | with_reducible refine seg_both ?_ ?_
      | with_reducible refine seg_case (fun x h => ?_) (fun h => ?_)
      | with_reducible refine seg_gate (fun h => ?_) (fun h => ?_)
      | with_reducible refine seg_need ?_ ?_
      | with_reducible refine wp_assoc ?_ | with_reducible refine wp_skipS ?_ | with_reducible refine wp_retS ?_ | with_reducible refine wp_exitS ?_ | with_reducible refine wp_dropS (wp_eqT (by simp -dsimp -implicitDefEqProofs; rfl) ?_) | with_reducible refine wp_sealS (by simp -dsimp -implicitDefEqProofs; rfl) ?_ | with_reducible refine wp_seal (by simp -dsimp -implicitDefEqProofs; rfl) ?_ | with_reducible refine wp_blockS ?_ | with_reducible refine wp_skip' ?_ | with_reducible refine wp_ret' ?_ | with_reducible refine wp_exit' ?_ | with_reducible refine wp_drop (wp_eqT (by simp -dsimp -implicitDefEqProofs; rfl) ?_) | with_reducible refine wp_block' ?_
      | with_reducible refine wp_condVS (by simp -dsimp -implicitDefEqProofs; rfl) ?_
      | with_reducible refine wp_condV (by simp -dsimp -implicitDefEqProofs; rfl) ?_
      | with_reducible refine cond_t ?_ | with_reducible refine cond_f ?_ | with_reducible refine cond_v (fun h => ?_) (fun h => ?_)
      | with_reducible refine post_then ?_ | with_reducible refine post_thenE ?_ | with_reducible refine post_thenP ?_ | with_reducible refine post_blkP ?_ | with_reducible refine post_thenR ?_ | with_reducible refine post_blkN ?_ | with_reducible refine post_blkE ?_ | with_reducible refine post_blkF rfl ?_ | with_reducible refine post_blkR ?_
      | with_reducible refine seg_eval (by simp -dsimp -implicitDefEqProofs; rfl) ?_
  refine wp_loop' (fun j ts mm => ∃ i : Nat, i + j = l.length ∧ ts = [(0, .fsl 4 (l.map av2)), (3, .v (.int .i64 (sumW (l.take i) 0))), (6, .fsl 4 (l.map av2)), (7, .v (.int .i64 l.length)), (8, .v (.int .i64 i))] ∧ mm = []) l.length ?_ ?_
  · exact ⟨[], [], rfl, rfl, 0, by omega, by simp [sumW], by simp⟩
  · rintro j ts mm ⟨i, hi, rfl, rfl⟩
    by_cases hlt : i < l.length
    · obtain ⟨f, hf⟩ : ∃ f, l[i]? = some f := ⟨_, List.getElem?_eq_getElem hlt⟩
      have hd2 : decide (i < l.length) = true := by simp [hlt]
      have h64 : IntKind.wrap .i64 ((i : Int) + 1) = ((i + 1 : Nat) : Int) := by rw [IntWalk.i64_in _ (by omega)]; rfl
      repeat' first
          | with_reducible refine wp_regionS (seg_eval (by simp -dsimp -implicitDefEqProofs [hd2, hf, h64]; rfl) ?_)
          | with_reducible refine wp_region (seg_eval (by simp -dsimp -implicitDefEqProofs [hd2, hf, h64]; rfl) ?_)
          | with_reducible refine wp_drawsS (seg_eval (by simp -dsimp -implicitDefEqProofs [hd2, hf, h64]; rfl) ?_)
          | with_reducible refine wp_draws (seg_eval (by simp -dsimp -implicitDefEqProofs [hd2, hf, h64]; rfl) ?_)
          | with_reducible refine seg_fin ?_
          | with_reducible refine seg_pan ?_
          | with_reducible refine seg_both ?_ ?_
          | with_reducible refine seg_case (fun x h => ?_) (fun h => ?_)
          | with_reducible refine seg_gate (fun h => ?_) (fun h => ?_)
          | with_reducible refine seg_need ?_ ?_
          | with_reducible refine wp_assoc ?_ | with_reducible refine wp_skipS ?_ | with_reducible refine wp_retS ?_ | with_reducible refine wp_exitS ?_ | with_reducible refine wp_dropS (wp_eqT (by simp -dsimp -implicitDefEqProofs [hd2, hf, h64]; rfl) ?_) | with_reducible refine wp_sealS (by simp -dsimp -implicitDefEqProofs [hd2, hf, h64]; rfl) ?_ | with_reducible refine wp_seal (by simp -dsimp -implicitDefEqProofs [hd2, hf, h64]; rfl) ?_ | with_reducible refine wp_blockS ?_ | with_reducible refine wp_skip' ?_ | with_reducible refine wp_ret' ?_ | with_reducible refine wp_exit' ?_ | with_reducible refine wp_drop (wp_eqT (by simp -dsimp -implicitDefEqProofs [hd2, hf, h64]; rfl) ?_) | with_reducible refine wp_block' ?_
          | with_reducible refine wp_condVS (by simp -dsimp -implicitDefEqProofs [hd2, hf, h64]; rfl) ?_
          | with_reducible refine wp_condV (by simp -dsimp -implicitDefEqProofs [hd2, hf, h64]; rfl) ?_
          | with_reducible refine cond_t ?_ | with_reducible refine cond_f ?_ | with_reducible refine cond_v (fun h => ?_) (fun h => ?_)
          | with_reducible refine post_then ?_ | with_reducible refine post_thenE ?_ | with_reducible refine post_thenP ?_ | with_reducible refine post_blkP ?_ | with_reducible refine post_thenR ?_ | with_reducible refine post_blkN ?_ | with_reducible refine post_blkE ?_ | with_reducible refine post_blkF rfl ?_ | with_reducible refine post_blkR ?_
          | with_reducible refine seg_eval (by simp -dsimp -implicitDefEqProofs [hd2, hf, h64]; rfl) ?_
      exact ⟨j - 1, by omega, [], [], rfl, rfl, i + 1, by omega, by simp [take_snoc hf, sumW_snoc], by simp⟩
    · have hd2 : decide (i < l.length) = false := by simp [hlt]
      have him : i = l.length := by omega
      subst him
      rw [List.take_length]
      by_cases h210 : l.length ≤ 210
      · have hd3 : decide ((l.length : Int) ≤ 210) = true := by rw [decide_eq_true_eq]; omega
        have e : fewB l = decide (sumW l 0 ≤ 9000) := by simp [fewB, h210]
        rw [e]
        repeat' first
            | with_reducible refine wp_regionS (seg_eval (by simp -dsimp -implicitDefEqProofs [hd2, hd3]; rfl) ?_)
            | with_reducible refine wp_region (seg_eval (by simp -dsimp -implicitDefEqProofs [hd2, hd3]; rfl) ?_)
            | with_reducible refine wp_drawsS (seg_eval (by simp -dsimp -implicitDefEqProofs [hd2, hd3]; rfl) ?_)
            | with_reducible refine wp_draws (seg_eval (by simp -dsimp -implicitDefEqProofs [hd2, hd3]; rfl) ?_)
            | with_reducible refine seg_fin ?_
            | with_reducible refine seg_pan ?_
            | with_reducible refine seg_both ?_ ?_
            | with_reducible refine seg_case (fun x h => ?_) (fun h => ?_)
            | with_reducible refine seg_gate (fun h => ?_) (fun h => ?_)
            | with_reducible refine seg_need ?_ ?_
            | with_reducible refine wp_assoc ?_ | with_reducible refine wp_skipS ?_ | with_reducible refine wp_retS ?_ | with_reducible refine wp_exitS ?_ | with_reducible refine wp_dropS (wp_eqT (by simp -dsimp -implicitDefEqProofs [hd2, hd3]; rfl) ?_) | with_reducible refine wp_sealS (by simp -dsimp -implicitDefEqProofs [hd2, hd3]; rfl) ?_ | with_reducible refine wp_seal (by simp -dsimp -implicitDefEqProofs [hd2, hd3]; rfl) ?_ | with_reducible refine wp_blockS ?_ | with_reducible refine wp_skip' ?_ | with_reducible refine wp_ret' ?_ | with_reducible refine wp_exit' ?_ | with_reducible refine wp_drop (wp_eqT (by simp -dsimp -implicitDefEqProofs [hd2, hd3]; rfl) ?_) | with_reducible refine wp_block' ?_
            | with_reducible refine wp_condVS (by simp -dsimp -implicitDefEqProofs [hd2, hd3]; rfl) ?_
            | with_reducible refine wp_condV (by simp -dsimp -implicitDefEqProofs [hd2, hd3]; rfl) ?_
            | with_reducible refine cond_t ?_ | with_reducible refine cond_f ?_ | with_reducible refine cond_v (fun h => ?_) (fun h => ?_)
            | with_reducible refine post_then ?_ | with_reducible refine post_thenE ?_ | with_reducible refine post_thenP ?_ | with_reducible refine post_blkP ?_ | with_reducible refine post_thenR ?_ | with_reducible refine post_blkN ?_ | with_reducible refine post_blkE ?_ | with_reducible refine post_blkF rfl ?_ | with_reducible refine post_blkR ?_
            | with_reducible refine seg_eval (by simp -dsimp -implicitDefEqProofs [hd2, hd3]; rfl) ?_
        exact post_fin rfl rfl ⟨[], [], rfl, rfl, rfl, rfl⟩
      · have hd3 : decide ((l.length : Int) ≤ 210) = false := by rw [decide_eq_false_iff_not]; omega
        have e : fewB l = false := by simp [fewB, h210]
        rw [e]
        repeat' first
            | with_reducible refine wp_regionS (seg_eval (by simp -dsimp -implicitDefEqProofs [hd2, hd3]; rfl) ?_)
            | with_reducible refine wp_region (seg_eval (by simp -dsimp -implicitDefEqProofs [hd2, hd3]; rfl) ?_)
            | with_reducible refine wp_drawsS (seg_eval (by simp -dsimp -implicitDefEqProofs [hd2, hd3]; rfl) ?_)
            | with_reducible refine wp_draws (seg_eval (by simp -dsimp -implicitDefEqProofs [hd2, hd3]; rfl) ?_)
            | with_reducible refine seg_fin ?_
            | with_reducible refine seg_pan ?_
            | with_reducible refine seg_both ?_ ?_
            | with_reducible refine seg_case (fun x h => ?_) (fun h => ?_)
            | with_reducible refine seg_gate (fun h => ?_) (fun h => ?_)
            | with_reducible refine seg_need ?_ ?_
            | with_reducible refine wp_assoc ?_ | with_reducible refine wp_skipS ?_ | with_reducible refine wp_retS ?_ | with_reducible refine wp_exitS ?_ | with_reducible refine wp_dropS (wp_eqT (by simp -dsimp -implicitDefEqProofs [hd2, hd3]; rfl) ?_) | with_reducible refine wp_sealS (by simp -dsimp -implicitDefEqProofs [hd2, hd3]; rfl) ?_ | with_reducible refine wp_seal (by simp -dsimp -implicitDefEqProofs [hd2, hd3]; rfl) ?_ | with_reducible refine wp_blockS ?_ | with_reducible refine wp_skip' ?_ | with_reducible refine wp_ret' ?_ | with_reducible refine wp_exit' ?_ | with_reducible refine wp_drop (wp_eqT (by simp -dsimp -implicitDefEqProofs [hd2, hd3]; rfl) ?_) | with_reducible refine wp_block' ?_
            | with_reducible refine wp_condVS (by simp -dsimp -implicitDefEqProofs [hd2, hd3]; rfl) ?_
            | with_reducible refine wp_condV (by simp -dsimp -implicitDefEqProofs [hd2, hd3]; rfl) ?_
            | with_reducible refine cond_t ?_ | with_reducible refine cond_f ?_ | with_reducible refine cond_v (fun h => ?_) (fun h => ?_)
            | with_reducible refine post_then ?_ | with_reducible refine post_thenE ?_ | with_reducible refine post_thenP ?_ | with_reducible refine post_blkP ?_ | with_reducible refine post_thenR ?_ | with_reducible refine post_blkN ?_ | with_reducible refine post_blkE ?_ | with_reducible refine post_blkF rfl ?_ | with_reducible refine post_blkR ?_
            | with_reducible refine seg_eval (by simp -dsimp -implicitDefEqProofs [hd2, hd3]; rfl) ?_
        exact post_fin rfl rfl ⟨[], [], rfl, rfl, rfl, rfl⟩

/-! ### The same fields, of the other package -/
def spTheirs : Spec
  | [.fsl 4 es], [] => (uns un2 es).bind fun l => if l.length ≤ 1000 then some (.ret (.osl 0), [.arr 52 4 (l.map av1)]) else none
  | _, _ => none

set_option maxHeartbeats 1000000 in
theorem theirs_ok : CallOk Try.prog 17 spTheirs := by
  refine ok_17 E12b_ok spTheirs fun args mem r mem1 h => ?_
  unfold spTheirs at h
  split at h
  case h_2 => cases h
  rename_i es
  obtain ⟨l, hl, h2⟩ := Option.bind_eq_some_iff.1 h
  clear h
  have := uns2_some hl
  subst this
  clear hl
  obtain ⟨hsz, h3⟩ := if_some h2
  clear h2
  cases h3
  unfold ac_17
  repeat' first
      | with_reducible refine wp_regionS (seg_eval (by simp -dsimp -implicitDefEqProofs; rfl) ?_)
      | with_reducible refine wp_region (seg_eval (by simp -dsimp -implicitDefEqProofs; rfl) ?_)
      | with_reducible refine wp_drawsS (seg_eval (by simp -dsimp -implicitDefEqProofs; rfl) ?_)
      | with_reducible refine wp_draws (seg_eval (by simp -dsimp -implicitDefEqProofs; rfl) ?_)
      | with_reducible refine seg_fin ?_
      | with_reducible refine seg_pan ?_
      | with_reducible refine seg_both ?_ ?_
      | with_reducible refine seg_case (fun x h => ?_) (fun h => ?_)
      | with_reducible refine seg_gate (fun h => ?_) (fun h => ?_)
      | with_reducible refine seg_need ?_ ?_
      | with_reducible refine wp_assoc ?_ | with_reducible refine wp_skipS ?_ | with_reducible refine wp_retS ?_ | with_reducible refine wp_exitS ?_ | with_reducible refine wp_dropS (wp_eqT (by simp -dsimp -implicitDefEqProofs; rfl) ?_) | with_reducible refine wp_sealS (by simp -dsimp -implicitDefEqProofs; rfl) ?_ | with_reducible refine wp_seal (by simp -dsimp -implicitDefEqProofs; rfl) ?_ | with_reducible refine wp_blockS ?_ | with_reducible refine wp_skip' ?_ | with_reducible refine wp_ret' ?_ | with_reducible refine wp_exit' ?_ | with_reducible refine wp_drop (wp_eqT (by simp -dsimp -implicitDefEqProofs; rfl) ?_) | with_reducible refine wp_block' ?_
      | with_reducible refine wp_condVS (by simp -dsimp -implicitDefEqProofs; rfl) ?_
      | with_reducible refine wp_condV (by simp -dsimp -implicitDefEqProofs; rfl) ?_
      | with_reducible refine cond_t ?_ | with_reducible refine cond_f ?_ | with_reducible refine cond_v (fun h => ?_) (fun h => ?_)
      | with_reducible refine post_then ?_ | with_reducible refine post_thenE ?_ | with_reducible refine post_thenP ?_ | with_reducible refine post_blkP ?_ | with_reducible refine post_thenR ?_ | with_reducible refine post_blkN ?_ | with_reducible refine post_blkE ?_ | with_reducible refine post_blkF rfl ?_ | with_reducible refine post_blkR ?_
      | with_reducible refine seg_eval (by simp -dsimp -implicitDefEqProofs; rfl) ?_
  refine wp_loop' (fun j ts mm => ∃ i : Nat, i + j = l.length ∧ ts = [(3, .osl 0), (6, .fsl 4 (l.map av2)), (7, .v (.int .i64 l.length)), (8, .v (.int .i64 i))] ∧ mm = [.arr 52 4 ((l.take i).map av1)]) l.length ?_ ?_
  · exact ⟨[(3, 52, 4)], [0], rfl, rfl, 0, by omega, by simp, by simp⟩
  · rintro j ts mm ⟨i, hi, rfl, rfl⟩
    by_cases hlt : i < l.length
    · obtain ⟨f, hf⟩ : ∃ f, l[i]? = some f := ⟨_, List.getElem?_eq_getElem hlt⟩
      have hd2 : decide (i < l.length) = true := by simp [hlt]
      have h64 : IntKind.wrap .i64 ((i : Int) + 1) = ((i + 1 : Nat) : Int) := by rw [IntWalk.i64_in _ (by omega)]; rfl
      have hmin : min i l.length = i := by omega
      repeat' first
          | with_reducible refine wp_regionS (seg_eval (by simp -dsimp -implicitDefEqProofs [hd2, hf, h64, hmin]; rfl) ?_)
          | with_reducible refine wp_region (seg_eval (by simp -dsimp -implicitDefEqProofs [hd2, hf, h64, hmin]; rfl) ?_)
          | with_reducible refine wp_drawsS (seg_eval (by simp -dsimp -implicitDefEqProofs [hd2, hf, h64, hmin]; rfl) ?_)
          | with_reducible refine wp_draws (seg_eval (by simp -dsimp -implicitDefEqProofs [hd2, hf, h64, hmin]; rfl) ?_)
          | with_reducible refine seg_fin ?_
          | with_reducible refine seg_pan ?_
          | with_reducible refine seg_both ?_ ?_
          | with_reducible refine seg_case (fun x h => ?_) (fun h => ?_)
          | with_reducible refine seg_gate (fun h => ?_) (fun h => ?_)
          | with_reducible refine seg_need ?_ ?_
          | with_reducible refine wp_assoc ?_ | with_reducible refine wp_skipS ?_ | with_reducible refine wp_retS ?_ | with_reducible refine wp_exitS ?_ | with_reducible refine wp_dropS (wp_eqT (by simp -dsimp -implicitDefEqProofs [hd2, hf, h64, hmin]; rfl) ?_) | with_reducible refine wp_sealS (by simp -dsimp -implicitDefEqProofs [hd2, hf, h64, hmin]; rfl) ?_ | with_reducible refine wp_seal (by simp -dsimp -implicitDefEqProofs [hd2, hf, h64, hmin]; rfl) ?_ | with_reducible refine wp_blockS ?_ | with_reducible refine wp_skip' ?_ | with_reducible refine wp_ret' ?_ | with_reducible refine wp_exit' ?_ | with_reducible refine wp_drop (wp_eqT (by simp -dsimp -implicitDefEqProofs [hd2, hf, h64, hmin]; rfl) ?_) | with_reducible refine wp_block' ?_
          | with_reducible refine wp_condVS (by simp -dsimp -implicitDefEqProofs [hd2, hf, h64, hmin]; rfl) ?_
          | with_reducible refine wp_condV (by simp -dsimp -implicitDefEqProofs [hd2, hf, h64, hmin]; rfl) ?_
          | with_reducible refine cond_t ?_ | with_reducible refine cond_f ?_ | with_reducible refine cond_v (fun h => ?_) (fun h => ?_)
          | with_reducible refine post_then ?_ | with_reducible refine post_thenE ?_ | with_reducible refine post_thenP ?_ | with_reducible refine post_blkP ?_ | with_reducible refine post_thenR ?_ | with_reducible refine post_blkN ?_ | with_reducible refine post_blkE ?_ | with_reducible refine post_blkF rfl ?_ | with_reducible refine post_blkR ?_
          | with_reducible refine seg_eval (by simp -dsimp -implicitDefEqProofs [hd2, hf, h64, hmin]; rfl) ?_
      · omega
      · exact ⟨j - 1, by omega, [], [3], rfl, rfl, i + 1, by omega, by simp, by simp [take_snoc hf]⟩
    · have hd2 : decide (i < l.length) = false := by simp [hlt]
      have him : i = l.length := by omega
      subst him
      repeat' first
          | with_reducible refine wp_regionS (seg_eval (by simp -dsimp -implicitDefEqProofs [hd2]; rfl) ?_)
          | with_reducible refine wp_region (seg_eval (by simp -dsimp -implicitDefEqProofs [hd2]; rfl) ?_)
          | with_reducible refine wp_drawsS (seg_eval (by simp -dsimp -implicitDefEqProofs [hd2]; rfl) ?_)
          | with_reducible refine wp_draws (seg_eval (by simp -dsimp -implicitDefEqProofs [hd2]; rfl) ?_)
          | with_reducible refine seg_fin ?_
          | with_reducible refine seg_pan ?_
          | with_reducible refine seg_both ?_ ?_
          | with_reducible refine seg_case (fun x h => ?_) (fun h => ?_)
          | with_reducible refine seg_gate (fun h => ?_) (fun h => ?_)
          | with_reducible refine seg_need ?_ ?_
          | with_reducible refine wp_assoc ?_ | with_reducible refine wp_skipS ?_ | with_reducible refine wp_retS ?_ | with_reducible refine wp_exitS ?_ | with_reducible refine wp_dropS (wp_eqT (by simp -dsimp -implicitDefEqProofs [hd2]; rfl) ?_) | with_reducible refine wp_sealS (by simp -dsimp -implicitDefEqProofs [hd2]; rfl) ?_ | with_reducible refine wp_seal (by simp -dsimp -implicitDefEqProofs [hd2]; rfl) ?_ | with_reducible refine wp_blockS ?_ | with_reducible refine wp_skip' ?_ | with_reducible refine wp_ret' ?_ | with_reducible refine wp_exit' ?_ | with_reducible refine wp_drop (wp_eqT (by simp -dsimp -implicitDefEqProofs [hd2]; rfl) ?_) | with_reducible refine wp_block' ?_
          | with_reducible refine wp_condVS (by simp -dsimp -implicitDefEqProofs [hd2]; rfl) ?_
          | with_reducible refine wp_condV (by simp -dsimp -implicitDefEqProofs [hd2]; rfl) ?_
          | with_reducible refine cond_t ?_ | with_reducible refine cond_f ?_ | with_reducible refine cond_v (fun h => ?_) (fun h => ?_)
          | with_reducible refine post_then ?_ | with_reducible refine post_thenE ?_ | with_reducible refine post_thenP ?_ | with_reducible refine post_blkP ?_ | with_reducible refine post_thenR ?_ | with_reducible refine post_blkN ?_ | with_reducible refine post_blkE ?_ | with_reducible refine post_blkF rfl ?_ | with_reducible refine post_blkR ?_
          | with_reducible refine seg_eval (by simp -dsimp -implicitDefEqProofs [hd2]; rfl) ?_
      exact post_fin rfl rfl ⟨[], [0], rfl, rfl, rfl, by simp⟩

def spOurs : Spec
  | [.fsl 4 es], [] => (uns un1 es).bind fun l => if l.length ≤ 1000 then some (.ret (.osl 0), [.arr 48 4 (l.map av2)]) else none
  | _, _ => none

set_option maxHeartbeats 1000000 in
theorem ours_ok : CallOk Try.prog 24 spOurs := by
  refine ok_24 E12b_ok spOurs fun args mem r mem1 h => ?_
  unfold spOurs at h
  split at h
  case h_2 => cases h
  rename_i es
  obtain ⟨l, hl, h2⟩ := Option.bind_eq_some_iff.1 h
  clear h
  have := uns1_some hl
  subst this
  clear hl
  obtain ⟨hsz, h3⟩ := if_some h2
  clear h2
  cases h3
  unfold ac_24
  repeat' first
      | with_reducible refine wp_regionS (seg_eval (by simp -dsimp -implicitDefEqProofs; rfl) ?_)
      | with_reducible refine wp_region (seg_eval (by simp -dsimp -implicitDefEqProofs; rfl) ?_)
      | with_reducible refine wp_drawsS (seg_eval (by simp -dsimp -implicitDefEqProofs; rfl) ?_)
      | with_reducible refine wp_draws (seg_eval (by simp -dsimp -implicitDefEqProofs; rfl) ?_)
      | with_reducible refine seg_fin ?_
      | with_reducible refine seg_pan ?_
      | with_reducible refine seg_both ?_ ?_
      | with_reducible refine seg_case (fun x h => ?_) (fun h => ?_)
      | with_reducible refine seg_gate (fun h => ?_) (fun h => ?_)
      | with_reducible refine seg_need ?_ ?_
      | with_reducible refine wp_assoc ?_ | with_reducible refine wp_skipS ?_ | with_reducible refine wp_retS ?_ | with_reducible refine wp_exitS ?_ | with_reducible refine wp_dropS (wp_eqT (by simp -dsimp -implicitDefEqProofs; rfl) ?_) | with_reducible refine wp_sealS (by simp -dsimp -implicitDefEqProofs; rfl) ?_ | with_reducible refine wp_seal (by simp -dsimp -implicitDefEqProofs; rfl) ?_ | with_reducible refine wp_blockS ?_ | with_reducible refine wp_skip' ?_ | with_reducible refine wp_ret' ?_ | with_reducible refine wp_exit' ?_ | with_reducible refine wp_drop (wp_eqT (by simp -dsimp -implicitDefEqProofs; rfl) ?_) | with_reducible refine wp_block' ?_
      | with_reducible refine wp_condVS (by simp -dsimp -implicitDefEqProofs; rfl) ?_
      | with_reducible refine wp_condV (by simp -dsimp -implicitDefEqProofs; rfl) ?_
      | with_reducible refine cond_t ?_ | with_reducible refine cond_f ?_ | with_reducible refine cond_v (fun h => ?_) (fun h => ?_)
      | with_reducible refine post_then ?_ | with_reducible refine post_thenE ?_ | with_reducible refine post_thenP ?_ | with_reducible refine post_blkP ?_ | with_reducible refine post_thenR ?_ | with_reducible refine post_blkN ?_ | with_reducible refine post_blkE ?_ | with_reducible refine post_blkF rfl ?_ | with_reducible refine post_blkR ?_
      | with_reducible refine seg_eval (by simp -dsimp -implicitDefEqProofs; rfl) ?_
  refine wp_loop' (fun j ts mm => ∃ i : Nat, i + j = l.length ∧ ts = [(3, .osl 0), (6, .fsl 4 (l.map av1)), (7, .v (.int .i64 l.length)), (8, .v (.int .i64 i))] ∧ mm = [.arr 48 4 ((l.take i).map av2)]) l.length ?_ ?_
  · exact ⟨[(3, 48, 4)], [0], rfl, rfl, 0, by omega, by simp, by simp⟩
  · rintro j ts mm ⟨i, hi, rfl, rfl⟩
    by_cases hlt : i < l.length
    · obtain ⟨f, hf⟩ : ∃ f, l[i]? = some f := ⟨_, List.getElem?_eq_getElem hlt⟩
      have hd2 : decide (i < l.length) = true := by simp [hlt]
      have h64 : IntKind.wrap .i64 ((i : Int) + 1) = ((i + 1 : Nat) : Int) := by rw [IntWalk.i64_in _ (by omega)]; rfl
      have hmin : min i l.length = i := by omega
      repeat' first
          | with_reducible refine wp_regionS (seg_eval (by simp -dsimp -implicitDefEqProofs [hd2, hf, h64, hmin]; rfl) ?_)
          | with_reducible refine wp_region (seg_eval (by simp -dsimp -implicitDefEqProofs [hd2, hf, h64, hmin]; rfl) ?_)
          | with_reducible refine wp_drawsS (seg_eval (by simp -dsimp -implicitDefEqProofs [hd2, hf, h64, hmin]; rfl) ?_)
          | with_reducible refine wp_draws (seg_eval (by simp -dsimp -implicitDefEqProofs [hd2, hf, h64, hmin]; rfl) ?_)
          | with_reducible refine seg_fin ?_
          | with_reducible refine seg_pan ?_
          | with_reducible refine seg_both ?_ ?_
          | with_reducible refine seg_case (fun x h => ?_) (fun h => ?_)
          | with_reducible refine seg_gate (fun h => ?_) (fun h => ?_)
          | with_reducible refine seg_need ?_ ?_
          | with_reducible refine wp_assoc ?_ | with_reducible refine wp_skipS ?_ | with_reducible refine wp_retS ?_ | with_reducible refine wp_exitS ?_ | with_reducible refine wp_dropS (wp_eqT (by simp -dsimp -implicitDefEqProofs [hd2, hf, h64, hmin]; rfl) ?_) | with_reducible refine wp_sealS (by simp -dsimp -implicitDefEqProofs [hd2, hf, h64, hmin]; rfl) ?_ | with_reducible refine wp_seal (by simp -dsimp -implicitDefEqProofs [hd2, hf, h64, hmin]; rfl) ?_ | with_reducible refine wp_blockS ?_ | with_reducible refine wp_skip' ?_ | with_reducible refine wp_ret' ?_ | with_reducible refine wp_exit' ?_ | with_reducible refine wp_drop (wp_eqT (by simp -dsimp -implicitDefEqProofs [hd2, hf, h64, hmin]; rfl) ?_) | with_reducible refine wp_block' ?_
          | with_reducible refine wp_condVS (by simp -dsimp -implicitDefEqProofs [hd2, hf, h64, hmin]; rfl) ?_
          | with_reducible refine wp_condV (by simp -dsimp -implicitDefEqProofs [hd2, hf, h64, hmin]; rfl) ?_
          | with_reducible refine cond_t ?_ | with_reducible refine cond_f ?_ | with_reducible refine cond_v (fun h => ?_) (fun h => ?_)
          | with_reducible refine post_then ?_ | with_reducible refine post_thenE ?_ | with_reducible refine post_thenP ?_ | with_reducible refine post_blkP ?_ | with_reducible refine post_thenR ?_ | with_reducible refine post_blkN ?_ | with_reducible refine post_blkE ?_ | with_reducible refine post_blkF rfl ?_ | with_reducible refine post_blkR ?_
          | with_reducible refine seg_eval (by simp -dsimp -implicitDefEqProofs [hd2, hf, h64, hmin]; rfl) ?_
      · omega
      · exact ⟨j - 1, by omega, [], [3], rfl, rfl, i + 1, by omega, by simp, by simp [take_snoc hf]⟩
    · have hd2 : decide (i < l.length) = false := by simp [hlt]
      have him : i = l.length := by omega
      subst him
      repeat' first
          | with_reducible refine wp_regionS (seg_eval (by simp -dsimp -implicitDefEqProofs [hd2]; rfl) ?_)
          | with_reducible refine wp_region (seg_eval (by simp -dsimp -implicitDefEqProofs [hd2]; rfl) ?_)
          | with_reducible refine wp_drawsS (seg_eval (by simp -dsimp -implicitDefEqProofs [hd2]; rfl) ?_)
          | with_reducible refine wp_draws (seg_eval (by simp -dsimp -implicitDefEqProofs [hd2]; rfl) ?_)
          | with_reducible refine seg_fin ?_
          | with_reducible refine seg_pan ?_
          | with_reducible refine seg_both ?_ ?_
          | with_reducible refine seg_case (fun x h => ?_) (fun h => ?_)
          | with_reducible refine seg_gate (fun h => ?_) (fun h => ?_)
          | with_reducible refine seg_need ?_ ?_
          | with_reducible refine wp_assoc ?_ | with_reducible refine wp_skipS ?_ | with_reducible refine wp_retS ?_ | with_reducible refine wp_exitS ?_ | with_reducible refine wp_dropS (wp_eqT (by simp -dsimp -implicitDefEqProofs [hd2]; rfl) ?_) | with_reducible refine wp_sealS (by simp -dsimp -implicitDefEqProofs [hd2]; rfl) ?_ | with_reducible refine wp_seal (by simp -dsimp -implicitDefEqProofs [hd2]; rfl) ?_ | with_reducible refine wp_blockS ?_ | with_reducible refine wp_skip' ?_ | with_reducible refine wp_ret' ?_ | with_reducible refine wp_exit' ?_ | with_reducible refine wp_drop (wp_eqT (by simp -dsimp -implicitDefEqProofs [hd2]; rfl) ?_) | with_reducible refine wp_block' ?_
          | with_reducible refine wp_condVS (by simp -dsimp -implicitDefEqProofs [hd2]; rfl) ?_
          | with_reducible refine wp_condV (by simp -dsimp -implicitDefEqProofs [hd2]; rfl) ?_
          | with_reducible refine cond_t ?_ | with_reducible refine cond_f ?_ | with_reducible refine cond_v (fun h => ?_) (fun h => ?_)
          | with_reducible refine post_then ?_ | with_reducible refine post_thenE ?_ | with_reducible refine post_thenP ?_ | with_reducible refine post_blkP ?_ | with_reducible refine post_thenR ?_ | with_reducible refine post_blkN ?_ | with_reducible refine post_blkE ?_ | with_reducible refine post_blkF rfl ?_ | with_reducible refine post_blkR ?_
          | with_reducible refine seg_eval (by simp -dsimp -implicitDefEqProofs [hd2]; rfl) ?_
      exact post_fin rfl rfl ⟨[], [0], rfl, rfl, rfl, by simp⟩

/-! ### The very same fields -/
def eqF (f g : Fld) : Bool := (f.kind == g.kind) && ((f.num == g.num) && ((f.text == g.text) && (f.real == g.real)))
theorem eqF_iff (f g : Fld) : eqF f g = true ↔ f = g := by
  cases f; cases g
  simp only [eqF, Bool.and_eq_true, beq_iff_eq, beq_bytes, Fld.mk.injEq]
def sameB : List Fld → List Fld → Bool
  | [], [] => true
  | f :: l, g :: m => eqF f g && sameB l m
  | _, _ => false
theorem sameB_iff : ∀ l m : List Fld, sameB l m = true ↔ l = m
  | [], [] => by simp [sameB]
  | f :: l, g :: m => by simp only [sameB, Bool.and_eq_true, eqF_iff, sameB_iff l m, List.cons.injEq]
  | [], g :: m => by simp [sameB]
  | f :: l, [] => by simp [sameB]

def spSame : Spec
  | [.fsl 4 es, .fsl 4 fs], [] => (uns un2 es).bind fun l => (uns un2 fs).bind fun m => if l.length ≤ 9223372036854775807 then some (.ret (.v (.bool (sameB l m))), []) else none
  | _, _ => none

theorem same_no {l m : List Fld} {i : Nat} {f g : Fld} (h1 : l[i]? = some f) (h2 : m[i]? = some g) (h : eqF f g = false) : sameB l m = false := by
  rw [← Bool.not_eq_true, sameB_iff]
  rintro rfl
  rw [h1] at h2
  cases h2
  rw [(eqF_iff f f).2 rfl] at h; cases h

set_option maxHeartbeats 1000000 in
theorem same_ok : CallOk Try.prog 23 spSame := by
  refine ok_23 E12b_ok spSame fun args mem r mem1 h => ?_
  unfold spSame at h
  split at h
  case h_2 => cases h
  rename_i es fs
  obtain ⟨l, hl, h1⟩ := Option.bind_eq_some_iff.1 h
  obtain ⟨m, hm, h2⟩ := Option.bind_eq_some_iff.1 h1
  clear h h1
  have := uns2_some hl
  subst this
  have := uns2_some hm
  subst this
  clear hl hm
  obtain ⟨hsz, h3⟩ := if_some h2
  clear h2
  cases h3
  unfold ac_23
  by_cases hlen : l.length = m.length
  · have hd : ((l.length : Int) != (m.length : Int)) = false := by simp [hlen]
    have hd' : (l.length != m.length) = false := by simp [hlen]
    repeat' first
        | with_reducible refine wp_regionS (seg_eval (by simp -dsimp -implicitDefEqProofs [hd, hd']; rfl) ?_)
        | with_reducible refine wp_region (seg_eval (by simp -dsimp -implicitDefEqProofs [hd, hd']; rfl) ?_)
        | with_reducible refine wp_drawsS (seg_eval (by simp -dsimp -implicitDefEqProofs [hd, hd']; rfl) ?_)
        | with_reducible refine wp_draws (seg_eval (by simp -dsimp -implicitDefEqProofs [hd, hd']; rfl) ?_)
        | with_reducible refine seg_fin ?_
        | with_reducible refine seg_pan ?_
        | with_reducible refine seg_both ?_ ?_
        | with_reducible refine seg_case (fun x h => ?_) (fun h => ?_)
        | with_reducible refine seg_gate (fun h => ?_) (fun h => ?_)
        | with_reducible refine seg_need ?_ ?_
        | with_reducible refine wp_assoc ?_ | with_reducible refine wp_skipS ?_ | with_reducible refine wp_retS ?_ | with_reducible refine wp_exitS ?_ | with_reducible refine wp_dropS (wp_eqT (by simp -dsimp -implicitDefEqProofs [hd, hd']; rfl) ?_) | with_reducible refine wp_sealS (by simp -dsimp -implicitDefEqProofs [hd, hd']; rfl) ?_ | with_reducible refine wp_seal (by simp -dsimp -implicitDefEqProofs [hd, hd']; rfl) ?_ | with_reducible refine wp_blockS ?_ | with_reducible refine wp_skip' ?_ | with_reducible refine wp_ret' ?_ | with_reducible refine wp_exit' ?_ | with_reducible refine wp_drop (wp_eqT (by simp -dsimp -implicitDefEqProofs [hd, hd']; rfl) ?_) | with_reducible refine wp_block' ?_
        | with_reducible refine wp_condVS (by simp -dsimp -implicitDefEqProofs [hd, hd']; rfl) ?_
        | with_reducible refine wp_condV (by simp -dsimp -implicitDefEqProofs [hd, hd']; rfl) ?_
        | with_reducible refine cond_t ?_ | with_reducible refine cond_f ?_ | with_reducible refine cond_v (fun h => ?_) (fun h => ?_)
        | with_reducible refine post_then ?_ | with_reducible refine post_thenE ?_ | with_reducible refine post_thenP ?_ | with_reducible refine post_blkP ?_ | with_reducible refine post_thenR ?_ | with_reducible refine post_blkN ?_ | with_reducible refine post_blkE ?_ | with_reducible refine post_blkF rfl ?_ | with_reducible refine post_blkR ?_
        | with_reducible refine seg_eval (by simp -dsimp -implicitDefEqProofs [hd, hd']; rfl) ?_
    refine wp_loop' (fun j ts mm => ∃ i : Nat, i + j = l.length ∧ l.take i = m.take i ∧ ts = [(0, .fsl 4 (l.map av2)), (1, .fsl 4 (m.map av2)), (5, .v (.int .i64 i))] ∧ mm = []) l.length ?_ ?_
    · exact ⟨[], [], rfl, rfl, 0, by omega, by simp, by simp, by simp⟩
    · rintro j ts mm ⟨i, hi, hpre, rfl, rfl⟩
      by_cases hlt : i < l.length
      · obtain ⟨f, hf⟩ : ∃ f, l[i]? = some f := ⟨_, List.getElem?_eq_getElem hlt⟩
        obtain ⟨g, hg⟩ : ∃ g, m[i]? = some g := ⟨_, List.getElem?_eq_getElem (by omega)⟩
        have hd2 : decide (i < l.length) = true := by simp [hlt]
        have h64 : IntKind.wrap .i64 ((i : Int) + 1) = ((i + 1 : Nat) : Int) := by rw [IntWalk.i64_in _ (by omega)]; rfl
        cases hfg : eqF f g with
        | true =>
          rw [eqF_iff] at hfg
          subst hfg
          have htt : (f.text == f.text) = true := (beq_bytes _ _).2 rfl
          repeat' first
              | with_reducible refine wp_regionS (seg_eval (by simp -dsimp -implicitDefEqProofs [hd2, hf, hg, h64, htt]; rfl) ?_)
              | with_reducible refine wp_region (seg_eval (by simp -dsimp -implicitDefEqProofs [hd2, hf, hg, h64, htt]; rfl) ?_)
              | with_reducible refine wp_drawsS (seg_eval (by simp -dsimp -implicitDefEqProofs [hd2, hf, hg, h64, htt]; rfl) ?_)
              | with_reducible refine wp_draws (seg_eval (by simp -dsimp -implicitDefEqProofs [hd2, hf, hg, h64, htt]; rfl) ?_)
              | with_reducible refine seg_fin ?_
              | with_reducible refine seg_pan ?_
              | with_reducible refine seg_both ?_ ?_
              | with_reducible refine seg_case (fun x h => ?_) (fun h => ?_)
              | with_reducible refine seg_gate (fun h => ?_) (fun h => ?_)
              | with_reducible refine seg_need ?_ ?_
              | with_reducible refine wp_assoc ?_ | with_reducible refine wp_skipS ?_ | with_reducible refine wp_retS ?_ | with_reducible refine wp_exitS ?_ | with_reducible refine wp_dropS (wp_eqT (by simp -dsimp -implicitDefEqProofs [hd2, hf, hg, h64, htt]; rfl) ?_) | with_reducible refine wp_sealS (by simp -dsimp -implicitDefEqProofs [hd2, hf, hg, h64, htt]; rfl) ?_ | with_reducible refine wp_seal (by simp -dsimp -implicitDefEqProofs [hd2, hf, hg, h64, htt]; rfl) ?_ | with_reducible refine wp_blockS ?_ | with_reducible refine wp_skip' ?_ | with_reducible refine wp_ret' ?_ | with_reducible refine wp_exit' ?_ | with_reducible refine wp_drop (wp_eqT (by simp -dsimp -implicitDefEqProofs [hd2, hf, hg, h64, htt]; rfl) ?_) | with_reducible refine wp_block' ?_
              | with_reducible refine wp_condVS (by simp -dsimp -implicitDefEqProofs [hd2, hf, hg, h64, htt]; rfl) ?_
              | with_reducible refine wp_condV (by simp -dsimp -implicitDefEqProofs [hd2, hf, hg, h64, htt]; rfl) ?_
              | with_reducible refine cond_t ?_ | with_reducible refine cond_f ?_ | with_reducible refine cond_v (fun h => ?_) (fun h => ?_)
              | with_reducible refine post_then ?_ | with_reducible refine post_thenE ?_ | with_reducible refine post_thenP ?_ | with_reducible refine post_blkP ?_ | with_reducible refine post_thenR ?_ | with_reducible refine post_blkN ?_ | with_reducible refine post_blkE ?_ | with_reducible refine post_blkF rfl ?_ | with_reducible refine post_blkR ?_
              | with_reducible refine seg_eval (by simp -dsimp -implicitDefEqProofs [hd2, hf, hg, h64, htt]; rfl) ?_
          refine ⟨j - 1, by omega, [], [], rfl, rfl, i + 1, by omega, by rw [take_snoc hf, take_snoc hg, hpre], by simp, by simp⟩
        | false =>
          have hfg2 := hfg
          unfold eqF at hfg2
          repeat' first
              | with_reducible refine wp_regionS (seg_eval (by simp -dsimp -implicitDefEqProofs [hd2, hf, hg, h64, hfg2]; rfl) ?_)
              | with_reducible refine wp_region (seg_eval (by simp -dsimp -implicitDefEqProofs [hd2, hf, hg, h64, hfg2]; rfl) ?_)
              | with_reducible refine wp_drawsS (seg_eval (by simp -dsimp -implicitDefEqProofs [hd2, hf, hg, h64, hfg2]; rfl) ?_)
              | with_reducible refine wp_draws (seg_eval (by simp -dsimp -implicitDefEqProofs [hd2, hf, hg, h64, hfg2]; rfl) ?_)
              | with_reducible refine seg_fin ?_
              | with_reducible refine seg_pan ?_
              | with_reducible refine seg_both ?_ ?_
              | with_reducible refine seg_case (fun x h => ?_) (fun h => ?_)
              | with_reducible refine seg_gate (fun h => ?_) (fun h => ?_)
              | with_reducible refine seg_need ?_ ?_
              | with_reducible refine wp_assoc ?_ | with_reducible refine wp_skipS ?_ | with_reducible refine wp_retS ?_ | with_reducible refine wp_exitS ?_ | with_reducible refine wp_dropS (wp_eqT (by simp -dsimp -implicitDefEqProofs [hd2, hf, hg, h64, hfg2]; rfl) ?_) | with_reducible refine wp_sealS (by simp -dsimp -implicitDefEqProofs [hd2, hf, hg, h64, hfg2]; rfl) ?_ | with_reducible refine wp_seal (by simp -dsimp -implicitDefEqProofs [hd2, hf, hg, h64, hfg2]; rfl) ?_ | with_reducible refine wp_blockS ?_ | with_reducible refine wp_skip' ?_ | with_reducible refine wp_ret' ?_ | with_reducible refine wp_exit' ?_ | with_reducible refine wp_drop (wp_eqT (by simp -dsimp -implicitDefEqProofs [hd2, hf, hg, h64, hfg2]; rfl) ?_) | with_reducible refine wp_block' ?_
              | with_reducible refine wp_condVS (by simp -dsimp -implicitDefEqProofs [hd2, hf, hg, h64, hfg2]; rfl) ?_
              | with_reducible refine wp_condV (by simp -dsimp -implicitDefEqProofs [hd2, hf, hg, h64, hfg2]; rfl) ?_
              | with_reducible refine cond_t ?_ | with_reducible refine cond_f ?_ | with_reducible refine cond_v (fun h => ?_) (fun h => ?_)
              | with_reducible refine post_then ?_ | with_reducible refine post_thenE ?_ | with_reducible refine post_thenP ?_ | with_reducible refine post_blkP ?_ | with_reducible refine post_thenR ?_ | with_reducible refine post_blkN ?_ | with_reducible refine post_blkE ?_ | with_reducible refine post_blkF rfl ?_ | with_reducible refine post_blkR ?_
              | with_reducible refine seg_eval (by simp -dsimp -implicitDefEqProofs [hd2, hf, hg, h64, hfg2]; rfl) ?_
          rw [same_no hf hg hfg]
          exact post_fin rfl rfl ⟨[], [], rfl, rfl, rfl, rfl⟩
      · have hd2 : decide (i < l.length) = false := by simp [hlt]
        repeat' first
            | with_reducible refine wp_regionS (seg_eval (by simp -dsimp -implicitDefEqProofs [hd2]; rfl) ?_)
            | with_reducible refine wp_region (seg_eval (by simp -dsimp -implicitDefEqProofs [hd2]; rfl) ?_)
            | with_reducible refine wp_drawsS (seg_eval (by simp -dsimp -implicitDefEqProofs [hd2]; rfl) ?_)
            | with_reducible refine wp_draws (seg_eval (by simp -dsimp -implicitDefEqProofs [hd2]; rfl) ?_)
            | with_reducible refine seg_fin ?_
            | with_reducible refine seg_pan ?_
            | with_reducible refine seg_both ?_ ?_
            | with_reducible refine seg_case (fun x h => ?_) (fun h => ?_)
            | with_reducible refine seg_gate (fun h => ?_) (fun h => ?_)
            | with_reducible refine seg_need ?_ ?_
            | with_reducible refine wp_assoc ?_ | with_reducible refine wp_skipS ?_ | with_reducible refine wp_retS ?_ | with_reducible refine wp_exitS ?_ | with_reducible refine wp_dropS (wp_eqT (by simp -dsimp -implicitDefEqProofs [hd2]; rfl) ?_) | with_reducible refine wp_sealS (by simp -dsimp -implicitDefEqProofs [hd2]; rfl) ?_ | with_reducible refine wp_seal (by simp -dsimp -implicitDefEqProofs [hd2]; rfl) ?_ | with_reducible refine wp_blockS ?_ | with_reducible refine wp_skip' ?_ | with_reducible refine wp_ret' ?_ | with_reducible refine wp_exit' ?_ | with_reducible refine wp_drop (wp_eqT (by simp -dsimp -implicitDefEqProofs [hd2]; rfl) ?_) | with_reducible refine wp_block' ?_
            | with_reducible refine wp_condVS (by simp -dsimp -implicitDefEqProofs [hd2]; rfl) ?_
            | with_reducible refine wp_condV (by simp -dsimp -implicitDefEqProofs [hd2]; rfl) ?_
            | with_reducible refine cond_t ?_ | with_reducible refine cond_f ?_ | with_reducible refine cond_v (fun h => ?_) (fun h => ?_)
            | with_reducible refine post_then ?_ | with_reducible refine post_thenE ?_ | with_reducible refine post_thenP ?_ | with_reducible refine post_blkP ?_ | with_reducible refine post_thenR ?_ | with_reducible refine post_blkN ?_ | with_reducible refine post_blkE ?_ | with_reducible refine post_blkF rfl ?_ | with_reducible refine post_blkR ?_
            | with_reducible refine seg_eval (by simp -dsimp -implicitDefEqProofs [hd2]; rfl) ?_
        have him : i = l.length := by omega
        subst him
        rw [List.take_length, hlen, List.take_length] at hpre
        rw [(sameB_iff l m).2 hpre]
        exact post_fin rfl rfl ⟨[], [], rfl, rfl, rfl, rfl⟩
  · have hd : ((l.length : Int) != (m.length : Int)) = true := by simp; omega
    have hd' : (l.length != m.length) = true := by simp; omega
    repeat' first
        | with_reducible refine wp_regionS (seg_eval (by simp -dsimp -implicitDefEqProofs [hd, hd']; rfl) ?_)
        | with_reducible refine wp_region (seg_eval (by simp -dsimp -implicitDefEqProofs [hd, hd']; rfl) ?_)
        | with_reducible refine wp_drawsS (seg_eval (by simp -dsimp -implicitDefEqProofs [hd, hd']; rfl) ?_)
        | with_reducible refine wp_draws (seg_eval (by simp -dsimp -implicitDefEqProofs [hd, hd']; rfl) ?_)
        | with_reducible refine seg_fin ?_
        | with_reducible refine seg_pan ?_
        | with_reducible refine seg_both ?_ ?_
        | with_reducible refine seg_case (fun x h => ?_) (fun h => ?_)
        | with_reducible refine seg_gate (fun h => ?_) (fun h => ?_)
        | with_reducible refine seg_need ?_ ?_
        | with_reducible refine wp_assoc ?_ | with_reducible refine wp_skipS ?_ | with_reducible refine wp_retS ?_ | with_reducible refine wp_exitS ?_ | with_reducible refine wp_dropS (wp_eqT (by simp -dsimp -implicitDefEqProofs [hd, hd']; rfl) ?_) | with_reducible refine wp_sealS (by simp -dsimp -implicitDefEqProofs [hd, hd']; rfl) ?_ | with_reducible refine wp_seal (by simp -dsimp -implicitDefEqProofs [hd, hd']; rfl) ?_ | with_reducible refine wp_blockS ?_ | with_reducible refine wp_skip' ?_ | with_reducible refine wp_ret' ?_ | with_reducible refine wp_exit' ?_ | with_reducible refine wp_drop (wp_eqT (by simp -dsimp -implicitDefEqProofs [hd, hd']; rfl) ?_) | with_reducible refine wp_block' ?_
        | with_reducible refine wp_condVS (by simp -dsimp -implicitDefEqProofs [hd, hd']; rfl) ?_
        | with_reducible refine wp_condV (by simp -dsimp -implicitDefEqProofs [hd, hd']; rfl) ?_
        | with_reducible refine cond_t ?_ | with_reducible refine cond_f ?_ | with_reducible refine cond_v (fun h => ?_) (fun h => ?_)
        | with_reducible refine post_then ?_ | with_reducible refine post_thenE ?_ | with_reducible refine post_thenP ?_ | with_reducible refine post_blkP ?_ | with_reducible refine post_thenR ?_ | with_reducible refine post_blkN ?_ | with_reducible refine post_blkE ?_ | with_reducible refine post_blkF rfl ?_ | with_reducible refine post_blkR ?_
        | with_reducible refine seg_eval (by simp -dsimp -implicitDefEqProofs [hd, hd']; rfl) ?_
    have : sameB l m = false := by
      rw [← Bool.not_eq_true, sameB_iff]
      rintro rfl
      exact hlen rfl
    rw [this]
    exact post_fin rfl rfl ⟨[], [], rfl, rfl, rfl, rfl⟩

/-! ### Of kinds, by the document -/
def spIsR : Spec
  | [.fsl 4 es, .fsl 1 ks], [] => (uns un2 es).bind fun l => (uns unI ks).bind fun k => if l.length ≤ 9223372036854775807 then some (.ret (.v (.bool (isK l k))), []) else none
  | _, _ => none

set_option maxHeartbeats 1000000 in
theorem isR_ok : CallOk Try.prog 20 spIsR := by
  refine ok_20 E12b_ok spIsR fun args mem r mem1 h => ?_
  unfold spIsR at h
  split at h
  case h_2 => cases h
  rename_i es ks
  obtain ⟨l, hl, h1⟩ := Option.bind_eq_some_iff.1 h
  obtain ⟨k, hk, h2⟩ := Option.bind_eq_some_iff.1 h1
  clear h h1
  have := uns2_some hl
  subst this
  have := unsI_some hk
  subst this
  clear hl hk
  obtain ⟨hsz, h3⟩ := if_some h2
  clear h2
  cases h3
  unfold ac_20
  by_cases hlen : l.length = k.length
  · have hd : ((l.length : Int) != (k.length : Int)) = false := by simp [hlen]
    have hd' : (l.length != k.length) = false := by simp [hlen]
    repeat' first
        | with_reducible refine wp_regionS (seg_eval (by simp -dsimp -implicitDefEqProofs [hd, hd']; rfl) ?_)
        | with_reducible refine wp_region (seg_eval (by simp -dsimp -implicitDefEqProofs [hd, hd']; rfl) ?_)
        | with_reducible refine wp_drawsS (seg_eval (by simp -dsimp -implicitDefEqProofs [hd, hd']; rfl) ?_)
        | with_reducible refine wp_draws (seg_eval (by simp -dsimp -implicitDefEqProofs [hd, hd']; rfl) ?_)
        | with_reducible refine seg_fin ?_
        | with_reducible refine seg_pan ?_
        | with_reducible refine seg_both ?_ ?_
        | with_reducible refine seg_case (fun x h => ?_) (fun h => ?_)
        | with_reducible refine seg_gate (fun h => ?_) (fun h => ?_)
        | with_reducible refine seg_need ?_ ?_
        | with_reducible refine wp_assoc ?_ | with_reducible refine wp_skipS ?_ | with_reducible refine wp_retS ?_ | with_reducible refine wp_exitS ?_ | with_reducible refine wp_dropS (wp_eqT (by simp -dsimp -implicitDefEqProofs [hd, hd']; rfl) ?_) | with_reducible refine wp_sealS (by simp -dsimp -implicitDefEqProofs [hd, hd']; rfl) ?_ | with_reducible refine wp_seal (by simp -dsimp -implicitDefEqProofs [hd, hd']; rfl) ?_ | with_reducible refine wp_blockS ?_ | with_reducible refine wp_skip' ?_ | with_reducible refine wp_ret' ?_ | with_reducible refine wp_exit' ?_ | with_reducible refine wp_drop (wp_eqT (by simp -dsimp -implicitDefEqProofs [hd, hd']; rfl) ?_) | with_reducible refine wp_block' ?_
        | with_reducible refine wp_condVS (by simp -dsimp -implicitDefEqProofs [hd, hd']; rfl) ?_
        | with_reducible refine wp_condV (by simp -dsimp -implicitDefEqProofs [hd, hd']; rfl) ?_
        | with_reducible refine cond_t ?_ | with_reducible refine cond_f ?_ | with_reducible refine cond_v (fun h => ?_) (fun h => ?_)
        | with_reducible refine post_then ?_ | with_reducible refine post_thenE ?_ | with_reducible refine post_thenP ?_ | with_reducible refine post_blkP ?_ | with_reducible refine post_thenR ?_ | with_reducible refine post_blkN ?_ | with_reducible refine post_blkE ?_ | with_reducible refine post_blkF rfl ?_ | with_reducible refine post_blkR ?_
        | with_reducible refine seg_eval (by simp -dsimp -implicitDefEqProofs [hd, hd']; rfl) ?_
    refine wp_loop' (fun j ts mm => ∃ i : Nat, i + j = l.length ∧ (l.take i).map Fld.kind = k.take i ∧ ts = [(0, .fsl 4 (l.map av2)), (1, .fsl 1 (k.map avI)), (5, .v (.int .i64 i))] ∧ mm = []) l.length ?_ ?_
    · exact ⟨[], [], rfl, rfl, 0, by omega, by simp, by simp, by simp⟩
    · rintro j ts mm ⟨i, hi, hpre, rfl, rfl⟩
      by_cases hlt : i < l.length
      · obtain ⟨f, hf⟩ : ∃ f, l[i]? = some f := ⟨_, List.getElem?_eq_getElem hlt⟩
        obtain ⟨x, hx⟩ : ∃ x, k[i]? = some x := ⟨_, List.getElem?_eq_getElem (by omega)⟩
        have hd2 : decide (i < l.length) = true := by simp [hlt]
        have h64 : IntKind.wrap .i64 ((i : Int) + 1) = ((i + 1 : Nat) : Int) := by rw [IntWalk.i64_in _ (by omega)]; rfl
        by_cases hfx : f.kind = x
        · have hn : (f.kind != x) = false := by simp [hfx]
          repeat' first
              | with_reducible refine wp_regionS (seg_eval (by simp -dsimp -implicitDefEqProofs [hd2, hf, hx, hn, h64]; rfl) ?_)
              | with_reducible refine wp_region (seg_eval (by simp -dsimp -implicitDefEqProofs [hd2, hf, hx, hn, h64]; rfl) ?_)
              | with_reducible refine wp_drawsS (seg_eval (by simp -dsimp -implicitDefEqProofs [hd2, hf, hx, hn, h64]; rfl) ?_)
              | with_reducible refine wp_draws (seg_eval (by simp -dsimp -implicitDefEqProofs [hd2, hf, hx, hn, h64]; rfl) ?_)
              | with_reducible refine seg_fin ?_
              | with_reducible refine seg_pan ?_
              | with_reducible refine seg_both ?_ ?_
              | with_reducible refine seg_case (fun x h => ?_) (fun h => ?_)
              | with_reducible refine seg_gate (fun h => ?_) (fun h => ?_)
              | with_reducible refine seg_need ?_ ?_
              | with_reducible refine wp_assoc ?_ | with_reducible refine wp_skipS ?_ | with_reducible refine wp_retS ?_ | with_reducible refine wp_exitS ?_ | with_reducible refine wp_dropS (wp_eqT (by simp -dsimp -implicitDefEqProofs [hd2, hf, hx, hn, h64]; rfl) ?_) | with_reducible refine wp_sealS (by simp -dsimp -implicitDefEqProofs [hd2, hf, hx, hn, h64]; rfl) ?_ | with_reducible refine wp_seal (by simp -dsimp -implicitDefEqProofs [hd2, hf, hx, hn, h64]; rfl) ?_ | with_reducible refine wp_blockS ?_ | with_reducible refine wp_skip' ?_ | with_reducible refine wp_ret' ?_ | with_reducible refine wp_exit' ?_ | with_reducible refine wp_drop (wp_eqT (by simp -dsimp -implicitDefEqProofs [hd2, hf, hx, hn, h64]; rfl) ?_) | with_reducible refine wp_block' ?_
              | with_reducible refine wp_condVS (by simp -dsimp -implicitDefEqProofs [hd2, hf, hx, hn, h64]; rfl) ?_
              | with_reducible refine wp_condV (by simp -dsimp -implicitDefEqProofs [hd2, hf, hx, hn, h64]; rfl) ?_
              | with_reducible refine cond_t ?_ | with_reducible refine cond_f ?_ | with_reducible refine cond_v (fun h => ?_) (fun h => ?_)
              | with_reducible refine post_then ?_ | with_reducible refine post_thenE ?_ | with_reducible refine post_thenP ?_ | with_reducible refine post_blkP ?_ | with_reducible refine post_thenR ?_ | with_reducible refine post_blkN ?_ | with_reducible refine post_blkE ?_ | with_reducible refine post_blkF rfl ?_ | with_reducible refine post_blkR ?_
              | with_reducible refine seg_eval (by simp -dsimp -implicitDefEqProofs [hd2, hf, hx, hn, h64]; rfl) ?_
          refine ⟨j - 1, by omega, [], [], rfl, rfl, i + 1, by omega, ?_, by simp, by simp⟩
          rw [take_snoc hf, take_snoc hx, List.map_append, hpre]
          simp [hfx]
        · have hn : (f.kind != x) = true := by simp [hfx]
          repeat' first
              | with_reducible refine wp_regionS (seg_eval (by simp -dsimp -implicitDefEqProofs [hd2, hf, hx, hn, h64]; rfl) ?_)
              | with_reducible refine wp_region (seg_eval (by simp -dsimp -implicitDefEqProofs [hd2, hf, hx, hn, h64]; rfl) ?_)
              | with_reducible refine wp_drawsS (seg_eval (by simp -dsimp -implicitDefEqProofs [hd2, hf, hx, hn, h64]; rfl) ?_)
              | with_reducible refine wp_draws (seg_eval (by simp -dsimp -implicitDefEqProofs [hd2, hf, hx, hn, h64]; rfl) ?_)
              | with_reducible refine seg_fin ?_
              | with_reducible refine seg_pan ?_
              | with_reducible refine seg_both ?_ ?_
              | with_reducible refine seg_case (fun x h => ?_) (fun h => ?_)
              | with_reducible refine seg_gate (fun h => ?_) (fun h => ?_)
              | with_reducible refine seg_need ?_ ?_
              | with_reducible refine wp_assoc ?_ | with_reducible refine wp_skipS ?_ | with_reducible refine wp_retS ?_ | with_reducible refine wp_exitS ?_ | with_reducible refine wp_dropS (wp_eqT (by simp -dsimp -implicitDefEqProofs [hd2, hf, hx, hn, h64]; rfl) ?_) | with_reducible refine wp_sealS (by simp -dsimp -implicitDefEqProofs [hd2, hf, hx, hn, h64]; rfl) ?_ | with_reducible refine wp_seal (by simp -dsimp -implicitDefEqProofs [hd2, hf, hx, hn, h64]; rfl) ?_ | with_reducible refine wp_blockS ?_ | with_reducible refine wp_skip' ?_ | with_reducible refine wp_ret' ?_ | with_reducible refine wp_exit' ?_ | with_reducible refine wp_drop (wp_eqT (by simp -dsimp -implicitDefEqProofs [hd2, hf, hx, hn, h64]; rfl) ?_) | with_reducible refine wp_block' ?_
              | with_reducible refine wp_condVS (by simp -dsimp -implicitDefEqProofs [hd2, hf, hx, hn, h64]; rfl) ?_
              | with_reducible refine wp_condV (by simp -dsimp -implicitDefEqProofs [hd2, hf, hx, hn, h64]; rfl) ?_
              | with_reducible refine cond_t ?_ | with_reducible refine cond_f ?_ | with_reducible refine cond_v (fun h => ?_) (fun h => ?_)
              | with_reducible refine post_then ?_ | with_reducible refine post_thenE ?_ | with_reducible refine post_thenP ?_ | with_reducible refine post_blkP ?_ | with_reducible refine post_thenR ?_ | with_reducible refine post_blkN ?_ | with_reducible refine post_blkE ?_ | with_reducible refine post_blkF rfl ?_ | with_reducible refine post_blkR ?_
              | with_reducible refine seg_eval (by simp -dsimp -implicitDefEqProofs [hd2, hf, hx, hn, h64]; rfl) ?_
          rw [isK_no hf hx hfx]
          exact post_fin rfl rfl ⟨[], [], rfl, rfl, rfl, rfl⟩
      · have hd2 : decide (i < l.length) = false := by simp [hlt]
        repeat' first
            | with_reducible refine wp_regionS (seg_eval (by simp -dsimp -implicitDefEqProofs [hd2]; rfl) ?_)
            | with_reducible refine wp_region (seg_eval (by simp -dsimp -implicitDefEqProofs [hd2]; rfl) ?_)
            | with_reducible refine wp_drawsS (seg_eval (by simp -dsimp -implicitDefEqProofs [hd2]; rfl) ?_)
            | with_reducible refine wp_draws (seg_eval (by simp -dsimp -implicitDefEqProofs [hd2]; rfl) ?_)
            | with_reducible refine seg_fin ?_
            | with_reducible refine seg_pan ?_
            | with_reducible refine seg_both ?_ ?_
            | with_reducible refine seg_case (fun x h => ?_) (fun h => ?_)
            | with_reducible refine seg_gate (fun h => ?_) (fun h => ?_)
            | with_reducible refine seg_need ?_ ?_
            | with_reducible refine wp_assoc ?_ | with_reducible refine wp_skipS ?_ | with_reducible refine wp_retS ?_ | with_reducible refine wp_exitS ?_ | with_reducible refine wp_dropS (wp_eqT (by simp -dsimp -implicitDefEqProofs [hd2]; rfl) ?_) | with_reducible refine wp_sealS (by simp -dsimp -implicitDefEqProofs [hd2]; rfl) ?_ | with_reducible refine wp_seal (by simp -dsimp -implicitDefEqProofs [hd2]; rfl) ?_ | with_reducible refine wp_blockS ?_ | with_reducible refine wp_skip' ?_ | with_reducible refine wp_ret' ?_ | with_reducible refine wp_exit' ?_ | with_reducible refine wp_drop (wp_eqT (by simp -dsimp -implicitDefEqProofs [hd2]; rfl) ?_) | with_reducible refine wp_block' ?_
            | with_reducible refine wp_condVS (by simp -dsimp -implicitDefEqProofs [hd2]; rfl) ?_
            | with_reducible refine wp_condV (by simp -dsimp -implicitDefEqProofs [hd2]; rfl) ?_
            | with_reducible refine cond_t ?_ | with_reducible refine cond_f ?_ | with_reducible refine cond_v (fun h => ?_) (fun h => ?_)
            | with_reducible refine post_then ?_ | with_reducible refine post_thenE ?_ | with_reducible refine post_thenP ?_ | with_reducible refine post_blkP ?_ | with_reducible refine post_thenR ?_ | with_reducible refine post_blkN ?_ | with_reducible refine post_blkE ?_ | with_reducible refine post_blkF rfl ?_ | with_reducible refine post_blkR ?_
            | with_reducible refine seg_eval (by simp -dsimp -implicitDefEqProofs [hd2]; rfl) ?_
        have him : i = l.length := by omega
        subst him
        rw [isK_yes hlen hpre]
        exact post_fin rfl rfl ⟨[], [], rfl, rfl, rfl, rfl⟩
  · have hd : ((l.length : Int) != (k.length : Int)) = true := by simp; omega
    have hd' : (l.length != k.length) = true := by simp; omega
    repeat' first
        | with_reducible refine wp_regionS (seg_eval (by simp -dsimp -implicitDefEqProofs [hd, hd']; rfl) ?_)
        | with_reducible refine wp_region (seg_eval (by simp -dsimp -implicitDefEqProofs [hd, hd']; rfl) ?_)
        | with_reducible refine wp_drawsS (seg_eval (by simp -dsimp -implicitDefEqProofs [hd, hd']; rfl) ?_)
        | with_reducible refine wp_draws (seg_eval (by simp -dsimp -implicitDefEqProofs [hd, hd']; rfl) ?_)
        | with_reducible refine seg_fin ?_
        | with_reducible refine seg_pan ?_
        | with_reducible refine seg_both ?_ ?_
        | with_reducible refine seg_case (fun x h => ?_) (fun h => ?_)
        | with_reducible refine seg_gate (fun h => ?_) (fun h => ?_)
        | with_reducible refine seg_need ?_ ?_
        | with_reducible refine wp_assoc ?_ | with_reducible refine wp_skipS ?_ | with_reducible refine wp_retS ?_ | with_reducible refine wp_exitS ?_ | with_reducible refine wp_dropS (wp_eqT (by simp -dsimp -implicitDefEqProofs [hd, hd']; rfl) ?_) | with_reducible refine wp_sealS (by simp -dsimp -implicitDefEqProofs [hd, hd']; rfl) ?_ | with_reducible refine wp_seal (by simp -dsimp -implicitDefEqProofs [hd, hd']; rfl) ?_ | with_reducible refine wp_blockS ?_ | with_reducible refine wp_skip' ?_ | with_reducible refine wp_ret' ?_ | with_reducible refine wp_exit' ?_ | with_reducible refine wp_drop (wp_eqT (by simp -dsimp -implicitDefEqProofs [hd, hd']; rfl) ?_) | with_reducible refine wp_block' ?_
        | with_reducible refine wp_condVS (by simp -dsimp -implicitDefEqProofs [hd, hd']; rfl) ?_
        | with_reducible refine wp_condV (by simp -dsimp -implicitDefEqProofs [hd, hd']; rfl) ?_
        | with_reducible refine cond_t ?_ | with_reducible refine cond_f ?_ | with_reducible refine cond_v (fun h => ?_) (fun h => ?_)
        | with_reducible refine post_then ?_ | with_reducible refine post_thenE ?_ | with_reducible refine post_thenP ?_ | with_reducible refine post_blkP ?_ | with_reducible refine post_thenR ?_ | with_reducible refine post_blkN ?_ | with_reducible refine post_blkE ?_ | with_reducible refine post_blkF rfl ?_ | with_reducible refine post_blkR ?_
        | with_reducible refine seg_eval (by simp -dsimp -implicitDefEqProofs [hd, hd']; rfl) ?_
    have : isK l k = false := by
      unfold isK
      rw [decide_eq_false_iff_not]
      rintro rfl
      simp at hlen
    rw [this]
    exact post_fin rfl rfl ⟨[], [], rfl, rfl, rfl, rfl⟩

def E14 : Env := ((((E12b.put 15 [] (fixS [4] spFew)).put 17 [] (fixS [4] spTheirs)).put 24 [] (fixS [4] spOurs)).put 23 [] (fixS [4, 4] spSame)).put 20 [] (fixS [4, 1] spIsR)
theorem E14_ok : EnvOk Try.prog E14 := Env.put_ok _ (Env.put_ok _ (Env.put_ok _ (Env.put_ok _ (Env.put_ok _ E12b_ok (few_ok.fix _)) (theirs_ok.fix _)) (ours_ok.fix _)) (same_ok.fix _)) (isR_ok.fix _)
attribute [simp] E14 spFew spTheirs spOurs spSame spIsR
end Go.Proofs.Ytbhbpahbopjfeaa.Am
