import Derived.Test.YtbhbpahbopjfeaaF14
import Derived.Test.YtbhbpahbopjfeaaCodeF
namespace Go.Proofs.Ytbhbpahbopjfeaa.Am
set_option linter.unusedSimpArgs false
set_option linter.unusedVariables false
open Go Go.Proofs
attribute [local irreducible] wpA

/-! ### Are fields of kinds that somebody may still write? -/
def spIsO : Spec
  | [.fsl 4 es, .osl 0], [.arr t 1 ks] => (uns un1 es).bind fun l => (uns unI ks).bind fun k => if l.length ≤ 9223372036854775807 then some (.ret (.v (.bool (isK l k))), [.arr t 1 ks]) else none
  | _, _ => none

set_option maxHeartbeats 1000000 in
theorem isO_ok : CallOk Try.prog 19 spIsO := by
  refine Fr.ok_19 E11b_ok spIsO fun args mem r mem1 h => ?_
  unfold spIsO at h
  split at h
  case h_2 => cases h
  rename_i es t ks
  obtain ⟨l, hl, h1⟩ := Option.bind_eq_some_iff.1 h
  obtain ⟨k, hk, h2⟩ := Option.bind_eq_some_iff.1 h1
  clear h h1
  have := uns1_some hl
  subst this
  have := unsI_some hk
  subst this
  clear hl hk
  obtain ⟨hsz, h3⟩ := if_some h2
  clear h2
  cases h3
  unfold Fr.ac_19
  by_cases hlen : l.length = k.length
  · have hd : ((l.length : Int) != (k.length : Int)) = false := by simp [hlen]
    have hd' : (l.length != k.length) = false := by simp [hlen]
    repeat' first
        | with_reducible refine wp_regionS (seg_eval (by simp -dsimp -implicitDefEqProofs [hd, hd']; rfl) ?_)
        | with_reducible refine wp_region (seg_eval (by simp -dsimp -implicitDefEqProofs [hd, hd']; rfl) ?_)
        | with_reducible refine wp_drawsS (seg_eval (by simp -dsimp -implicitDefEqProofs [hd, hd']; rfl) ?_)
        | with_reducible refine wp_draws (seg_eval (by simp -dsimp -implicitDefEqProofs [hd, hd']; rfl) ?_)
        | with_reducible refine seg_fin ?_
        | with_reducible refine seg_pan ?_
        | with_reducible refine seg_both ?_ ?_
        | with_reducible refine seg_case (fun x h => ?_) (fun h => ?_)
        | with_reducible refine seg_gate (fun h => ?_) (fun h => ?_)
        | with_reducible refine seg_need ?_ ?_
        | with_reducible refine wp_assoc ?_ | with_reducible refine wp_skipS ?_ | with_reducible refine wp_retS ?_ | with_reducible refine wp_exitS ?_ | with_reducible refine wp_dropS (wp_eqT (by simp -dsimp -implicitDefEqProofs [hd, hd']; rfl) ?_) | with_reducible refine wp_seal (by simp -dsimp -implicitDefEqProofs [hd, hd']; rfl) ?_ | with_reducible refine wp_blockS ?_ | with_reducible refine wp_skip' ?_ | with_reducible refine wp_ret' ?_ | with_reducible refine wp_exit' ?_ | with_reducible refine wp_drop (wp_eqT (by simp -dsimp -implicitDefEqProofs [hd, hd']; rfl) ?_) | with_reducible refine wp_block' ?_
        | with_reducible refine wp_condVS (by simp -dsimp -implicitDefEqProofs [hd, hd']; rfl) ?_
        | with_reducible refine wp_condV (by simp -dsimp -implicitDefEqProofs [hd, hd']; rfl) ?_
        | with_reducible refine cond_t ?_ | with_reducible refine cond_f ?_ | with_reducible refine cond_v (fun h => ?_) (fun h => ?_)
        | with_reducible refine post_then ?_ | with_reducible refine post_thenE ?_ | with_reducible refine post_thenP ?_ | with_reducible refine post_blkP ?_ | with_reducible refine post_thenR ?_ | with_reducible refine post_blkN ?_ | with_reducible refine post_blkE ?_ | with_reducible refine post_blkF rfl ?_ | with_reducible refine post_blkR ?_
        | with_reducible refine seg_eval (by simp -dsimp -implicitDefEqProofs [hd, hd']; rfl) ?_
    refine wp_loop' (fun j ts mm => ∃ i : Nat, i + j = l.length ∧ (l.take i).map Fld.kind = k.take i ∧ ts = [(1, .osl 0), (12, .fsl 4 (l.map av1)), (13, .v (.int .i64 l.length)), (14, .v (.int .i64 i))] ∧ mm = [.arr t 1 (k.map avI)]) l.length ?_ ?_
    · exact ⟨[], [0], rfl, rfl, 0, by omega, by simp, by simp, by simp⟩
    · rintro j ts mm ⟨i, hi, hpre, rfl, rfl⟩
      by_cases hlt : i < l.length
      · obtain ⟨f, hf⟩ : ∃ f, l[i]? = some f := ⟨_, List.getElem?_eq_getElem hlt⟩
        obtain ⟨x, hx⟩ : ∃ x, k[i]? = some x := ⟨_, List.getElem?_eq_getElem (by omega)⟩
        have hd2 : decide (i < l.length) = true := by simp [hlt]
        have h64 : IntKind.wrap .i64 ((i : Int) + 1) = ((i + 1 : Nat) : Int) := by rw [IntWalk.i64_in _ (by omega)]; rfl
        by_cases hfx : f.kind = x
        · have hn : (f.kind != x) = false := by simp [hfx]
          repeat' first
              | with_reducible refine wp_regionS (seg_eval (by simp -dsimp -implicitDefEqProofs [hd2, hf, hx, hn, h64]; rfl) ?_)
              | with_reducible refine wp_region (seg_eval (by simp -dsimp -implicitDefEqProofs [hd2, hf, hx, hn, h64]; rfl) ?_)
              | with_reducible refine wp_drawsS (seg_eval (by simp -dsimp -implicitDefEqProofs [hd2, hf, hx, hn, h64]; rfl) ?_)
              | with_reducible refine wp_draws (seg_eval (by simp -dsimp -implicitDefEqProofs [hd2, hf, hx, hn, h64]; rfl) ?_)
              | with_reducible refine seg_fin ?_
              | with_reducible refine seg_pan ?_
              | with_reducible refine seg_both ?_ ?_
              | with_reducible refine seg_case (fun x h => ?_) (fun h => ?_)
              | with_reducible refine seg_gate (fun h => ?_) (fun h => ?_)
              | with_reducible refine seg_need ?_ ?_
              | with_reducible refine wp_assoc ?_ | with_reducible refine wp_skipS ?_ | with_reducible refine wp_retS ?_ | with_reducible refine wp_exitS ?_ | with_reducible refine wp_dropS (wp_eqT (by simp -dsimp -implicitDefEqProofs [hd2, hf, hx, hn, h64]; rfl) ?_) | with_reducible refine wp_seal (by simp -dsimp -implicitDefEqProofs [hd2, hf, hx, hn, h64]; rfl) ?_ | with_reducible refine wp_blockS ?_ | with_reducible refine wp_skip' ?_ | with_reducible refine wp_ret' ?_ | with_reducible refine wp_exit' ?_ | with_reducible refine wp_drop (wp_eqT (by simp -dsimp -implicitDefEqProofs [hd2, hf, hx, hn, h64]; rfl) ?_) | with_reducible refine wp_block' ?_
              | with_reducible refine wp_condVS (by simp -dsimp -implicitDefEqProofs [hd2, hf, hx, hn, h64]; rfl) ?_
              | with_reducible refine wp_condV (by simp -dsimp -implicitDefEqProofs [hd2, hf, hx, hn, h64]; rfl) ?_
              | with_reducible refine cond_t ?_ | with_reducible refine cond_f ?_ | with_reducible refine cond_v (fun h => ?_) (fun h => ?_)
              | with_reducible refine post_then ?_ | with_reducible refine post_thenE ?_ | with_reducible refine post_thenP ?_ | with_reducible refine post_blkP ?_ | with_reducible refine post_thenR ?_ | with_reducible refine post_blkN ?_ | with_reducible refine post_blkE ?_ | with_reducible refine post_blkF rfl ?_ | with_reducible refine post_blkR ?_
              | with_reducible refine seg_eval (by simp -dsimp -implicitDefEqProofs [hd2, hf, hx, hn, h64]; rfl) ?_
          all_goals first
            | omega
            | refine ⟨j - 1, by omega, [], [0], rfl, rfl, i + 1, by omega, ?_, by simp, by simp⟩
              rw [take_snoc hf, take_snoc hx, List.map_append, hpre]
              simp [hfx]
        · have hn : (f.kind != x) = true := by simp [hfx]
          repeat' first
              | with_reducible refine wp_regionS (seg_eval (by simp -dsimp -implicitDefEqProofs [hd2, hf, hx, hn, h64]; rfl) ?_)
              | with_reducible refine wp_region (seg_eval (by simp -dsimp -implicitDefEqProofs [hd2, hf, hx, hn, h64]; rfl) ?_)
              | with_reducible refine wp_drawsS (seg_eval (by simp -dsimp -implicitDefEqProofs [hd2, hf, hx, hn, h64]; rfl) ?_)
              | with_reducible refine wp_draws (seg_eval (by simp -dsimp -implicitDefEqProofs [hd2, hf, hx, hn, h64]; rfl) ?_)
              | with_reducible refine seg_fin ?_
              | with_reducible refine seg_pan ?_
              | with_reducible refine seg_both ?_ ?_
              | with_reducible refine seg_case (fun x h => ?_) (fun h => ?_)
              | with_reducible refine seg_gate (fun h => ?_) (fun h => ?_)
              | with_reducible refine seg_need ?_ ?_
              | with_reducible refine wp_assoc ?_ | with_reducible refine wp_skipS ?_ | with_reducible refine wp_retS ?_ | with_reducible refine wp_exitS ?_ | with_reducible refine wp_dropS (wp_eqT (by simp -dsimp -implicitDefEqProofs [hd2, hf, hx, hn, h64]; rfl) ?_) | with_reducible refine wp_seal (by simp -dsimp -implicitDefEqProofs [hd2, hf, hx, hn, h64]; rfl) ?_ | with_reducible refine wp_blockS ?_ | with_reducible refine wp_skip' ?_ | with_reducible refine wp_ret' ?_ | with_reducible refine wp_exit' ?_ | with_reducible refine wp_drop (wp_eqT (by simp -dsimp -implicitDefEqProofs [hd2, hf, hx, hn, h64]; rfl) ?_) | with_reducible refine wp_block' ?_
              | with_reducible refine wp_condVS (by simp -dsimp -implicitDefEqProofs [hd2, hf, hx, hn, h64]; rfl) ?_
              | with_reducible refine wp_condV (by simp -dsimp -implicitDefEqProofs [hd2, hf, hx, hn, h64]; rfl) ?_
              | with_reducible refine cond_t ?_ | with_reducible refine cond_f ?_ | with_reducible refine cond_v (fun h => ?_) (fun h => ?_)
              | with_reducible refine post_then ?_ | with_reducible refine post_thenE ?_ | with_reducible refine post_thenP ?_ | with_reducible refine post_blkP ?_ | with_reducible refine post_thenR ?_ | with_reducible refine post_blkN ?_ | with_reducible refine post_blkE ?_ | with_reducible refine post_blkF rfl ?_ | with_reducible refine post_blkR ?_
              | with_reducible refine seg_eval (by simp -dsimp -implicitDefEqProofs [hd2, hf, hx, hn, h64]; rfl) ?_
          all_goals first
            | omega
            | rw [isK_no hf hx hfx]
              exact post_fin rfl rfl ⟨[], [0], rfl, rfl, rfl, rfl⟩
      · have hd2 : decide (i < l.length) = false := by simp [hlt]
        repeat' first
            | with_reducible refine wp_regionS (seg_eval (by simp -dsimp -implicitDefEqProofs [hd2]; rfl) ?_)
            | with_reducible refine wp_region (seg_eval (by simp -dsimp -implicitDefEqProofs [hd2]; rfl) ?_)
            | with_reducible refine wp_drawsS (seg_eval (by simp -dsimp -implicitDefEqProofs [hd2]; rfl) ?_)
            | with_reducible refine wp_draws (seg_eval (by simp -dsimp -implicitDefEqProofs [hd2]; rfl) ?_)
            | with_reducible refine seg_fin ?_
            | with_reducible refine seg_pan ?_
            | with_reducible refine seg_both ?_ ?_
            | with_reducible refine seg_case (fun x h => ?_) (fun h => ?_)
            | with_reducible refine seg_gate (fun h => ?_) (fun h => ?_)
            | with_reducible refine seg_need ?_ ?_
            | with_reducible refine wp_assoc ?_ | with_reducible refine wp_skipS ?_ | with_reducible refine wp_retS ?_ | with_reducible refine wp_exitS ?_ | with_reducible refine wp_dropS (wp_eqT (by simp -dsimp -implicitDefEqProofs [hd2]; rfl) ?_) | with_reducible refine wp_seal (by simp -dsimp -implicitDefEqProofs [hd2]; rfl) ?_ | with_reducible refine wp_blockS ?_ | with_reducible refine wp_skip' ?_ | with_reducible refine wp_ret' ?_ | with_reducible refine wp_exit' ?_ | with_reducible refine wp_drop (wp_eqT (by simp -dsimp -implicitDefEqProofs [hd2]; rfl) ?_) | with_reducible refine wp_block' ?_
            | with_reducible refine wp_condVS (by simp -dsimp -implicitDefEqProofs [hd2]; rfl) ?_
            | with_reducible refine wp_condV (by simp -dsimp -implicitDefEqProofs [hd2]; rfl) ?_
            | with_reducible refine cond_t ?_ | with_reducible refine cond_f ?_ | with_reducible refine cond_v (fun h => ?_) (fun h => ?_)
            | with_reducible refine post_then ?_ | with_reducible refine post_thenE ?_ | with_reducible refine post_thenP ?_ | with_reducible refine post_blkP ?_ | with_reducible refine post_thenR ?_ | with_reducible refine post_blkN ?_ | with_reducible refine post_blkE ?_ | with_reducible refine post_blkF rfl ?_ | with_reducible refine post_blkR ?_
            | with_reducible refine seg_eval (by simp -dsimp -implicitDefEqProofs [hd2]; rfl) ?_
        have him : i = l.length := by omega
        subst him
        rw [isK_yes hlen hpre]
        exact post_fin rfl rfl ⟨[], [0], rfl, rfl, rfl, rfl⟩
  · have hd : ((l.length : Int) != (k.length : Int)) = true := by simp; omega
    have hd' : (l.length != k.length) = true := by simp; omega
    repeat' first
        | with_reducible refine wp_regionS (seg_eval (by simp -dsimp -implicitDefEqProofs [hd, hd']; rfl) ?_)
        | with_reducible refine wp_region (seg_eval (by simp -dsimp -implicitDefEqProofs [hd, hd']; rfl) ?_)
        | with_reducible refine wp_drawsS (seg_eval (by simp -dsimp -implicitDefEqProofs [hd, hd']; rfl) ?_)
        | with_reducible refine wp_draws (seg_eval (by simp -dsimp -implicitDefEqProofs [hd, hd']; rfl) ?_)
        | with_reducible refine seg_fin ?_
        | with_reducible refine seg_pan ?_
        | with_reducible refine seg_both ?_ ?_
        | with_reducible refine seg_case (fun x h => ?_) (fun h => ?_)
        | with_reducible refine seg_gate (fun h => ?_) (fun h => ?_)
        | with_reducible refine seg_need ?_ ?_
        | with_reducible refine wp_assoc ?_ | with_reducible refine wp_skipS ?_ | with_reducible refine wp_retS ?_ | with_reducible refine wp_exitS ?_ | with_reducible refine wp_dropS (wp_eqT (by simp -dsimp -implicitDefEqProofs [hd, hd']; rfl) ?_) | with_reducible refine wp_seal (by simp -dsimp -implicitDefEqProofs [hd, hd']; rfl) ?_ | with_reducible refine wp_blockS ?_ | with_reducible refine wp_skip' ?_ | with_reducible refine wp_ret' ?_ | with_reducible refine wp_exit' ?_ | with_reducible refine wp_drop (wp_eqT (by simp -dsimp -implicitDefEqProofs [hd, hd']; rfl) ?_) | with_reducible refine wp_block' ?_
        | with_reducible refine wp_condVS (by simp -dsimp -implicitDefEqProofs [hd, hd']; rfl) ?_
        | with_reducible refine wp_condV (by simp -dsimp -implicitDefEqProofs [hd, hd']; rfl) ?_
        | with_reducible refine cond_t ?_ | with_reducible refine cond_f ?_ | with_reducible refine cond_v (fun h => ?_) (fun h => ?_)
        | with_reducible refine post_then ?_ | with_reducible refine post_thenE ?_ | with_reducible refine post_thenP ?_ | with_reducible refine post_blkP ?_ | with_reducible refine post_thenR ?_ | with_reducible refine post_blkN ?_ | with_reducible refine post_blkE ?_ | with_reducible refine post_blkF rfl ?_ | with_reducible refine post_blkR ?_
        | with_reducible refine seg_eval (by simp -dsimp -implicitDefEqProofs [hd, hd']; rfl) ?_
    have : isK l k = false := by
      unfold isK
      rw [decide_eq_false_iff_not]
      rintro rfl
      simp at hlen
    rw [this]
    exact post_fin rfl rfl ⟨[], [0], rfl, rfl, rfl, rfl⟩

def E22 : Env := E14.put 19 [false, true] (fixS [4] spIsO)
theorem E22_ok : EnvOk Try.prog E22 := Env.put_ok _ E14_ok (isO_ok.fix _)
attribute [simp] E22 spIsO

theorem isK_self (l : List Fld) : isK l (l.map Fld.kind) = true := by simp [isK]
theorem isK_more (l : List Fld) (x : Int) : isK l (l.map Fld.kind ++ [x]) = false := by
  unfold isK
  rw [decide_eq_false_iff_not]
  intro h
  have := congrArg List.length h
  simp at this
theorem isK_set {l : List Fld} {i : Nat} {f : Fld} (h : l[i]? = some f) (x : Int) : isK l ((l.map Fld.kind).set i x) = (x == f.kind) := by
  have hlt : i < l.length := (List.getElem?_eq_some_iff.1 h).1
  have hk : (l.map Fld.kind)[i]? = some f.kind := by rw [List.getElem?_map, h]; rfl
  rw [Bool.eq_iff_iff]
  simp only [isK, decide_eq_true_eq, beq_iff_eq]
  constructor
  · intro e
    have := congrArg (fun m => m[i]?) e
    simp only [hk] at this
    rw [List.getElem?_set_self (by simpa using hlt)] at this
    simpa using this.symm
  · rintro rfl
    have : (l.map Fld.kind)[i]'(by simpa using hlt) = f.kind := by
      have := List.getElem?_eq_getElem (l := l.map Fld.kind) (i := i) (by simpa using hlt)
      rw [hk] at this
      exact (Option.some.inj this).symm
    rw [← this, List.set_getElem_self]

def spKinds : Spec
  | [.fsl 4 es, .v (.int .u8 at_), .v (.int .i64 kind)], [] => (uns un2 es).bind fun l => if (∀ f ∈ l, f.ok = true) ∧ l.length ≤ 9223372036854775807 ∧ 0 ≤ at_ ∧ at_ < 256 then some (.ret (.v (.bool true)), []) else none
  | _, _ => none

set_option maxHeartbeats 8000000 in
theorem packKinds_ok : CallOk Try.prog 8 spKinds := by
  refine ok_8 E22_ok spKinds fun args mem r mem1 h => ?_
  unfold spKinds at h
  split at h
  case h_2 => cases h
  rename_i es c kind
  obtain ⟨l, hl, h2⟩ := Option.bind_eq_some_iff.1 h
  clear h
  have := uns2_some hl
  subst this
  clear hl
  obtain ⟨⟨ol, sl, hc0, hc1⟩, h3⟩ := if_some h2
  clear h2
  cases h3
  obtain ⟨c, rfl⟩ := Int.eq_ofNat_of_zero_le hc0
  unfold ac_8
  cases fl : fewB l with
  | false =>
    repeat' first
        | with_reducible refine wp_regionS (seg_eval (by simp -dsimp -implicitDefEqProofs [fl]; rfl) ?_)
        | with_reducible refine wp_region (seg_eval (by simp -dsimp -implicitDefEqProofs [fl]; rfl) ?_)
        | with_reducible refine wp_drawsS (seg_eval (by simp -dsimp -implicitDefEqProofs [fl]; rfl) ?_)
        | with_reducible refine wp_draws (seg_eval (by simp -dsimp -implicitDefEqProofs [fl]; rfl) ?_)
        | with_reducible refine seg_fin ?_
        | with_reducible refine seg_pan ?_
        | with_reducible refine seg_both ?_ ?_
        | with_reducible refine seg_case (fun x h => ?_) (fun h => ?_)
        | with_reducible refine seg_gate (fun h => ?_) (fun h => ?_)
        | with_reducible refine seg_need ?_ ?_
        | with_reducible refine wp_assoc ?_ | with_reducible refine wp_skipS ?_ | with_reducible refine wp_retS ?_ | with_reducible refine wp_exitS ?_ | with_reducible refine wp_dropS (wp_eqT (by simp -dsimp -implicitDefEqProofs [fl]; rfl) ?_) | with_reducible refine wp_seal (by simp -dsimp -implicitDefEqProofs [fl]; rfl) ?_ | with_reducible refine wp_blockS ?_ | with_reducible refine wp_skip' ?_ | with_reducible refine wp_ret' ?_ | with_reducible refine wp_exit' ?_ | with_reducible refine wp_drop (wp_eqT (by simp -dsimp -implicitDefEqProofs [fl]; rfl) ?_) | with_reducible refine wp_block' ?_
        | with_reducible refine wp_condVS (by simp -dsimp -implicitDefEqProofs [fl]; rfl) ?_
        | with_reducible refine wp_condV (by simp -dsimp -implicitDefEqProofs [fl]; rfl) ?_
        | with_reducible refine cond_t ?_ | with_reducible refine cond_f ?_ | with_reducible refine cond_v (fun h => ?_) (fun h => ?_)
        | with_reducible refine post_then ?_ | with_reducible refine post_thenE ?_ | with_reducible refine post_thenP ?_ | with_reducible refine post_blkP ?_ | with_reducible refine post_thenR ?_ | with_reducible refine post_blkN ?_ | with_reducible refine post_blkE ?_ | with_reducible refine post_blkF rfl ?_ | with_reducible refine post_blkR ?_
        | with_reducible refine seg_eval (by simp -dsimp -implicitDefEqProofs [fl]; rfl) ?_
    all_goals first
      | omega
      | exact post_fin rfl rfl ⟨[], [], rfl, rfl, rfl, rfl⟩
      | trace_state
  | true =>
  have ll := fewB_len fl
  repeat' first
      | with_reducible refine wp_regionS (seg_eval (by simp -dsimp -implicitDefEqProofs [fl]; rfl) ?_)
      | with_reducible refine wp_region (seg_eval (by simp -dsimp -implicitDefEqProofs [fl]; rfl) ?_)
      | with_reducible refine wp_drawsS (seg_eval (by simp -dsimp -implicitDefEqProofs [fl]; rfl) ?_)
      | with_reducible refine wp_draws (seg_eval (by simp -dsimp -implicitDefEqProofs [fl]; rfl) ?_)
      | with_reducible refine seg_fin ?_
      | with_reducible refine seg_pan ?_
      | with_reducible refine seg_both ?_ ?_
      | with_reducible refine seg_case (fun x h => ?_) (fun h => ?_)
      | with_reducible refine seg_gate (fun h => ?_) (fun h => ?_)
      | with_reducible refine seg_need ?_ ?_
      | with_reducible refine wp_assoc ?_ | with_reducible refine wp_skipS ?_ | with_reducible refine wp_retS ?_ | with_reducible refine wp_exitS ?_ | with_reducible refine wp_dropS (wp_eqT (by simp -dsimp -implicitDefEqProofs [fl]; rfl) ?_) | with_reducible refine wp_seal (by simp -dsimp -implicitDefEqProofs [fl]; rfl) ?_ | with_reducible refine wp_blockS ?_ | with_reducible refine wp_skip' ?_ | with_reducible refine wp_ret' ?_ | with_reducible refine wp_exit' ?_ | with_reducible refine wp_drop (wp_eqT (by simp -dsimp -implicitDefEqProofs [fl]; rfl) ?_) | with_reducible refine wp_block' ?_
      | with_reducible refine wp_condVS (by simp -dsimp -implicitDefEqProofs [fl]; rfl) ?_
      | with_reducible refine wp_condV (by simp -dsimp -implicitDefEqProofs [fl]; rfl) ?_
      | with_reducible refine cond_t ?_ | with_reducible refine cond_f ?_ | with_reducible refine cond_v (fun h => ?_) (fun h => ?_)
      | with_reducible refine post_then ?_ | with_reducible refine post_thenE ?_ | with_reducible refine post_thenP ?_ | with_reducible refine post_blkP ?_ | with_reducible refine post_thenR ?_ | with_reducible refine post_blkN ?_ | with_reducible refine post_blkE ?_ | with_reducible refine post_blkF rfl ?_ | with_reducible refine post_blkR ?_
      | with_reducible refine seg_eval (by simp -dsimp -implicitDefEqProofs [fl]; rfl) ?_
  · omega
  refine wp_loop' (fun j ts mm => ∃ i : Nat, i + j = l.length ∧ ts = [(0, .fsl 4 (l.map av2)), (1, .v (.int .u8 c)), (2, .v (.int .i64 kind)), (7, .osl 0), (18, .fsl 4 (l.map av2)), (19, .v (.int .i64 l.length)), (20, .v (.int .i64 i))] ∧ mm = [.arr 3 1 ((l.take i).map fun f => avI f.kind)]) l.length ?_ ?_
  · exact ⟨[(7, 3, 1)], [0], rfl, rfl, 0, by omega, by simp, by simp⟩
  · rintro j ts mm ⟨i, hi, rfl, rfl⟩
    by_cases hlt : i < l.length
    · obtain ⟨f, hf⟩ : ∃ f, l[i]? = some f := ⟨_, List.getElem?_eq_getElem hlt⟩
      have hd2 : decide (i < l.length) = true := by simp [hlt]
      have h64 : IntKind.wrap .i64 ((i : Int) + 1) = ((i + 1 : Nat) : Int) := by rw [IntWalk.i64_in _ (by omega)]; rfl
      have hmin : min i l.length = i := by omega
      repeat' first
          | with_reducible refine wp_regionS (seg_eval (by simp -dsimp -implicitDefEqProofs [hd2, hf, h64, hmin]; rfl) ?_)
          | with_reducible refine wp_region (seg_eval (by simp -dsimp -implicitDefEqProofs [hd2, hf, h64, hmin]; rfl) ?_)
          | with_reducible refine wp_drawsS (seg_eval (by simp -dsimp -implicitDefEqProofs [hd2, hf, h64, hmin]; rfl) ?_)
          | with_reducible refine wp_draws (seg_eval (by simp -dsimp -implicitDefEqProofs [hd2, hf, h64, hmin]; rfl) ?_)
          | with_reducible refine seg_fin ?_
          | with_reducible refine seg_pan ?_
          | with_reducible refine seg_both ?_ ?_
          | with_reducible refine seg_case (fun x h => ?_) (fun h => ?_)
          | with_reducible refine seg_gate (fun h => ?_) (fun h => ?_)
          | with_reducible refine seg_need ?_ ?_
          | with_reducible refine wp_assoc ?_ | with_reducible refine wp_skipS ?_ | with_reducible refine wp_retS ?_ | with_reducible refine wp_exitS ?_ | with_reducible refine wp_dropS (wp_eqT (by simp -dsimp -implicitDefEqProofs [hd2, hf, h64, hmin]; rfl) ?_) | with_reducible refine wp_seal (by simp -dsimp -implicitDefEqProofs [hd2, hf, h64, hmin]; rfl) ?_ | with_reducible refine wp_blockS ?_ | with_reducible refine wp_skip' ?_ | with_reducible refine wp_ret' ?_ | with_reducible refine wp_exit' ?_ | with_reducible refine wp_drop (wp_eqT (by simp -dsimp -implicitDefEqProofs [hd2, hf, h64, hmin]; rfl) ?_) | with_reducible refine wp_block' ?_
          | with_reducible refine wp_condVS (by simp -dsimp -implicitDefEqProofs [hd2, hf, h64, hmin]; rfl) ?_
          | with_reducible refine wp_condV (by simp -dsimp -implicitDefEqProofs [hd2, hf, h64, hmin]; rfl) ?_
          | with_reducible refine cond_t ?_ | with_reducible refine cond_f ?_ | with_reducible refine cond_v (fun h => ?_) (fun h => ?_)
          | with_reducible refine post_then ?_ | with_reducible refine post_thenE ?_ | with_reducible refine post_thenP ?_ | with_reducible refine post_blkP ?_ | with_reducible refine post_thenR ?_ | with_reducible refine post_blkN ?_ | with_reducible refine post_blkE ?_ | with_reducible refine post_blkF rfl ?_ | with_reducible refine post_blkR ?_
          | with_reducible refine seg_eval (by simp -dsimp -implicitDefEqProofs [hd2, hf, h64, hmin]; rfl) ?_
      all_goals first
        | omega
        | exact ⟨j - 1, by omega, [], [3], rfl, rfl, i + 1, by omega, by simp, by simp [take_snoc hf]⟩
        | trace_state
    · have hd2 : decide (i < l.length) = false := by simp [hlt]
      have him : i = l.length := by omega
      subst him
      have hk1 : uns unI (l.map fun f => .v (.int .i64 f.kind)) = some (l.map Fld.kind) := by
        have := unsI (l.map Fld.kind)
        rw [List.map_map] at this
        exact this
      have hk2 : uns unI ((l.map fun f => .v (.int .i64 f.kind)) ++ [.v (.int .i64 kind)]) = some (l.map Fld.kind ++ [kind]) := by
        have := unsI (l.map Fld.kind ++ [kind])
        rw [List.map_append, List.map_map] at this
        exact this
      have is1 := isK_self l
      have is2 := isK_more l kind
      have hsh : (l.map fun f => AV.v (.int .i64 f.kind)).all AV.shaped = true := by simp [AV.shaped, AV.one, Value.oneCell']
      by_cases hz : l.length = 0
      · have hz' : ((l.length : Int) == 0) = true := by simp [hz]
        repeat' first
            | with_reducible refine wp_regionS (seg_eval (by simp -dsimp -implicitDefEqProofs [hd2, hk1, hk2, is1, is2, hsh, hz']; rfl) ?_)
            | with_reducible refine wp_region (seg_eval (by simp -dsimp -implicitDefEqProofs [hd2, hk1, hk2, is1, is2, hsh, hz']; rfl) ?_)
            | with_reducible refine wp_drawsS (seg_eval (by simp -dsimp -implicitDefEqProofs [hd2, hk1, hk2, is1, is2, hsh, hz']; rfl) ?_)
            | with_reducible refine wp_draws (seg_eval (by simp -dsimp -implicitDefEqProofs [hd2, hk1, hk2, is1, is2, hsh, hz']; rfl) ?_)
            | with_reducible refine seg_fin ?_
            | with_reducible refine seg_pan ?_
            | with_reducible refine seg_both ?_ ?_
            | with_reducible refine seg_case (fun x h => ?_) (fun h => ?_)
            | with_reducible refine seg_gate (fun h => ?_) (fun h => ?_)
            | with_reducible refine seg_need ?_ ?_
            | with_reducible refine wp_assoc ?_ | with_reducible refine wp_skipS ?_ | with_reducible refine wp_retS ?_ | with_reducible refine wp_exitS ?_ | with_reducible refine wp_dropS (wp_eqT (by simp -dsimp -implicitDefEqProofs [hd2, hk1, hk2, is1, is2, hsh, hz']; rfl) ?_) | with_reducible refine wp_seal (by simp -dsimp -implicitDefEqProofs [hd2, hk1, hk2, is1, is2, hsh, hz']; rfl) ?_ | with_reducible refine wp_blockS ?_ | with_reducible refine wp_skip' ?_ | with_reducible refine wp_ret' ?_ | with_reducible refine wp_exit' ?_ | with_reducible refine wp_drop (wp_eqT (by simp -dsimp -implicitDefEqProofs [hd2, hk1, hk2, is1, is2, hsh, hz']; rfl) ?_) | with_reducible refine wp_block' ?_
            | with_reducible refine wp_condVS (by simp -dsimp -implicitDefEqProofs [hd2, hk1, hk2, is1, is2, hsh, hz']; rfl) ?_
            | with_reducible refine wp_condV (by simp -dsimp -implicitDefEqProofs [hd2, hk1, hk2, is1, is2, hsh, hz']; rfl) ?_
            | with_reducible refine cond_t ?_ | with_reducible refine cond_f ?_ | with_reducible refine cond_v (fun h => ?_) (fun h => ?_)
            | with_reducible refine post_then ?_ | with_reducible refine post_thenE ?_ | with_reducible refine post_thenP ?_ | with_reducible refine post_blkP ?_ | with_reducible refine post_thenR ?_ | with_reducible refine post_blkN ?_ | with_reducible refine post_blkE ?_ | with_reducible refine post_blkF rfl ?_ | with_reducible refine post_blkR ?_
            | with_reducible refine seg_eval (by simp -dsimp -implicitDefEqProofs [hd2, hk1, hk2, is1, is2, hsh, hz']; rfl) ?_
        all_goals first
          | omega
          | exact post_fin rfl rfl ⟨[], [], rfl, rfl, rfl, rfl⟩
          | trace_state
      · have hz' : ((l.length : Int) == 0) = false := by rw [beq_eq_false_iff_ne]; omega
        have hc64 : IntKind.wrap .i64 (c : Int) = (c : Int) := IntWalk.i64_in _ (by omega)
        have hmod : ((c : Int).tmod (l.length : Int)) = ((c % l.length : Nat) : Int) := rfl
        have hml : c % l.length < l.length := Nat.mod_lt _ (by omega)
        generalize c % l.length = i at hmod hml
        obtain ⟨f, hf⟩ : ∃ f, l[i]? = some f := ⟨_, List.getElem?_eq_getElem hml⟩
        have hi64 : IntKind.wrap .i64 (i : Int) = (i : Int) := IntWalk.i64_in _ (by omega)
        have is3 := isK_set hf kind
        have hnl : l ≠ [] := by rintro rfl; simp at hz
        have hk3 : uns unI ((l.map fun f => .v (.int .i64 f.kind)).set i (.v (.int .i64 kind))) = some ((l.map Fld.kind).set i kind) := by
          have := unsI ((l.map Fld.kind).set i kind)
          rw [← this]
          congr 1
          rw [List.map_set, List.map_map]
          rfl
        repeat' first
            | with_reducible refine wp_regionS (seg_eval (by simp -dsimp -implicitDefEqProofs [hd2, hk1, hk2, hk3, is1, is2, is3, hsh, hz', hc64, hmod, hi64, hf, hnl]; rfl) ?_)
            | with_reducible refine wp_region (seg_eval (by simp -dsimp -implicitDefEqProofs [hd2, hk1, hk2, hk3, is1, is2, is3, hsh, hz', hc64, hmod, hi64, hf, hnl]; rfl) ?_)
            | with_reducible refine wp_drawsS (seg_eval (by simp -dsimp -implicitDefEqProofs [hd2, hk1, hk2, hk3, is1, is2, is3, hsh, hz', hc64, hmod, hi64, hf, hnl]; rfl) ?_)
            | with_reducible refine wp_draws (seg_eval (by simp -dsimp -implicitDefEqProofs [hd2, hk1, hk2, hk3, is1, is2, is3, hsh, hz', hc64, hmod, hi64, hf, hnl]; rfl) ?_)
            | with_reducible refine seg_fin ?_
            | with_reducible refine seg_pan ?_
            | with_reducible refine seg_both ?_ ?_
            | with_reducible refine seg_case (fun x h => ?_) (fun h => ?_)
            | with_reducible refine seg_gate (fun h => ?_) (fun h => ?_)
            | with_reducible refine seg_need ?_ ?_
            | with_reducible refine wp_assoc ?_ | with_reducible refine wp_skipS ?_ | with_reducible refine wp_retS ?_ | with_reducible refine wp_exitS ?_ | with_reducible refine wp_dropS (wp_eqT (by simp -dsimp -implicitDefEqProofs [hd2, hk1, hk2, hk3, is1, is2, is3, hsh, hz', hc64, hmod, hi64, hf, hnl]; rfl) ?_) | with_reducible refine wp_seal (by simp -dsimp -implicitDefEqProofs [hd2, hk1, hk2, hk3, is1, is2, is3, hsh, hz', hc64, hmod, hi64, hf, hnl]; rfl) ?_ | with_reducible refine wp_blockS ?_ | with_reducible refine wp_skip' ?_ | with_reducible refine wp_ret' ?_ | with_reducible refine wp_exit' ?_ | with_reducible refine wp_drop (wp_eqT (by simp -dsimp -implicitDefEqProofs [hd2, hk1, hk2, hk3, is1, is2, is3, hsh, hz', hc64, hmod, hi64, hf, hnl]; rfl) ?_) | with_reducible refine wp_block' ?_
            | with_reducible refine wp_condVS (by simp -dsimp -implicitDefEqProofs [hd2, hk1, hk2, hk3, is1, is2, is3, hsh, hz', hc64, hmod, hi64, hf, hnl]; rfl) ?_
            | with_reducible refine wp_condV (by simp -dsimp -implicitDefEqProofs [hd2, hk1, hk2, hk3, is1, is2, is3, hsh, hz', hc64, hmod, hi64, hf, hnl]; rfl) ?_
            | with_reducible refine cond_t ?_ | with_reducible refine cond_f ?_ | with_reducible refine cond_v (fun h => ?_) (fun h => ?_)
            | with_reducible refine post_then ?_ | with_reducible refine post_thenE ?_ | with_reducible refine post_thenP ?_ | with_reducible refine post_blkP ?_ | with_reducible refine post_thenR ?_ | with_reducible refine post_blkN ?_ | with_reducible refine post_blkE ?_ | with_reducible refine post_blkF rfl ?_ | with_reducible refine post_blkR ?_
            | with_reducible refine seg_eval (by simp -dsimp -implicitDefEqProofs [hd2, hk1, hk2, hk3, is1, is2, is3, hsh, hz', hc64, hmod, hi64, hf, hnl]; rfl) ?_
        all_goals first
          | omega
          | exact post_fin rfl rfl ⟨[], [], rfl, rfl, rfl, rfl⟩
          | trace_state
end Go.Proofs.Ytbhbpahbopjfeaa.Am
