/-
  VIEWS AND CHANGES IN LISTS: one package's changes as the other's; the views from one on, plainly.
-/
import Derived.Test.YtjmgnodeohmboaaDoorE0
import Derived.Test.YtjmgnodeohmboaaDoorR3
import Derived.Test.YtjmgnodeohmboaaDoorR4
import Derived.Test.YtjmgnodeohmboaaDoorAmL
import Derived.Test.YtjmgnodeohmboaaDoorCodeP
namespace Go.Proofs.YtjmgnodeohmboaaDoor.Am
set_option linter.unusedSimpArgs false
set_option linter.unusedVariables false
open Go Go.Proofs
attribute [local irreducible] wpA
attribute [-simp] splice

theorem inj_avCh {a b : Bool × Int} (h : avCh a = avCh b) : a = b := by
  simp only [avCh, AV.agg.injEq, List.cons.injEq, AV.v.injEq, Value.int.injEq, Value.bool.injEq, true_and, and_true] at h
  exact Prod.ext h.1 h.2
theorem map_avCh : ∀ {l m : List (Bool × Int)}, l.map avCh = m.map avCh → l = m
  | [], [], _ => rfl
  | [], _ :: _, h => by simp at h
  | _ :: _, [], h => by simp at h
  | a :: l, b :: m, h => by
    simp only [List.map_cons, List.cons.injEq] at h
    rw [inj_avCh h.1, map_avCh h.2]
def avRo (r : Int × Nat) : AV := .agg [.v (.int .i64 r.1), .v (.int .u16 (r.2 : Nat))]

def pathG (r : Int × Nat) : List (Bool × Int) → List (Int × Nat)
  | [] => []
  | c :: l => if (applyV r.1 r.2 c.1 c.2.toNat).2 = 0 then (applyV r.1 r.2 c.1 c.2.toNat).1 :: pathG (applyV r.1 r.2 c.1 c.2.toNat).1 l else []
def pathV (r : Int × Nat) (l : List (Bool × Int)) : List (Int × Nat) := if rightV r.1 r.2 = true then r :: pathG r l else []
theorem pathG_len (r : Int × Nat) (l : List (Bool × Int)) : (pathG r l).length ≤ l.length := by
  induction l generalizing r with
  | nil => simp [pathG]
  | cons c l ih =>
    unfold pathG
    split
    · simp; exact ih _
    · simp
theorem pathV_len (r : Int × Nat) (l : List (Bool × Int)) : (pathV r l).length ≤ l.length + 1 := by
  unfold pathV
  split
  · simp; exact pathG_len r l
  · simp
theorem pathG_at {r : Int × Nat} {l : List (Bool × Int)} {i : Nat} {c : Bool × Int} (h : l[i]? = some c) : pathG r (l.drop i) =
    if (applyV r.1 r.2 c.1 c.2.toNat).2 = 0 then (applyV r.1 r.2 c.1 c.2.toNat).1 :: pathG (applyV r.1 r.2 c.1 c.2.toNat).1 (l.drop (i + 1)) else [] := by
  have hlt := (List.getElem?_eq_some_iff.1 h).1
  have : l.drop i = c :: l.drop (i + 1) := by rw [List.drop_eq_getElem_cons hlt]; rw [(List.getElem?_eq_some_iff.1 h).2]
  rw [this]; rfl

noncomputable def spChanges : Spec := spc (X := List (Bool × Int)) (fun l => ([.fsl 2 (l.map avCh)], [])) (fun l => l.length ≤ 1000000) (fun l => (.ret (.fsl 2 (l.map avCh)), []))
open Classical in
theorem changesAt (l : List (Bool × Int)) : spChanges [.fsl 2 (l.map avCh)] [] = if l.length ≤ 1000000 then some (.ret (.fsl 2 (l.map avCh)), []) else none :=
  spc_at (f := fun l : List (Bool × Int) => ([.fsl 2 (l.map avCh)], [])) (fun x y h => by
    simp only [Prod.mk.injEq, List.cons.injEq, and_true, AV.fsl.injEq, true_and] at h
    exact map_avCh h) l

set_option maxHeartbeats 4000000 in
theorem changes_ok : CallOk Tryd.prog 20 spChanges := by
  refine ok_20 (Env.none_ok _) spChanges (wb_spc ?_)
  rintro l hll
  simp only at hll ⊢
  unfold ac_20
  repeat' with_reducible first
    | refine wp_regionS (seg_eval (by simp -dsimp -implicitDefEqProofs; rfl) ?_)
    | refine wp_region (seg_eval (by simp -dsimp -implicitDefEqProofs; rfl) ?_)
    | refine wp_drawsS (seg_eval (by simp -dsimp -implicitDefEqProofs; rfl) ?_)
    | refine wp_draws (seg_eval (by simp -dsimp -implicitDefEqProofs; rfl) ?_)
    | refine seg_fin ?_
    | refine seg_pan ?_
    | refine seg_both ?_ ?_
    | refine seg_case (fun x h => ?_) (fun h => ?_)
    | refine seg_gate (fun h => ?_) (fun h => ?_)
    | refine seg_need ?_ ?_
    | refine wp_assoc ?_ | refine wp_skipS ?_ | refine wp_retS ?_ | refine wp_exitS ?_ | refine wp_dropS (wp_eqT (by simp -dsimp -implicitDefEqProofs; rfl) ?_) | refine wp_sealS (by simp -dsimp -implicitDefEqProofs; rfl) ?_ | refine wp_seal (by simp -dsimp -implicitDefEqProofs; rfl) ?_ | refine wp_pack_out ?_ | refine wp_blockS ?_ | refine wp_skip' ?_ | refine wp_ret' ?_ | refine wp_exit' ?_ | refine wp_drop (wp_eqT (by simp -dsimp -implicitDefEqProofs; rfl) ?_) | refine wp_block' ?_
    | refine wp_condVS (by simp -dsimp -implicitDefEqProofs; rfl) ?_
    | refine wp_condV (by simp -dsimp -implicitDefEqProofs; rfl) ?_
    | refine cond_t ?_ | refine cond_f ?_ | refine cond_v (fun h => ?_) (fun h => ?_)
    | refine post_then ?_ | refine post_thenE ?_ | refine post_thenP ?_ | refine post_blkP ?_ | refine post_thenR ?_ | refine post_blkN ?_ | refine post_blkE ?_ | refine post_blkF rfl ?_ | refine post_blkR ?_
    | refine seg_eval (by simp -dsimp -implicitDefEqProofs; rfl) ?_
  refine wp_loop' (fun j ts mm => ∃ i : Nat, i + j = l.length ∧ ts = [(3, .osl 0), (6, .fsl 2 (l.map avCh)), (7, .v (.int .i64 l.length)), (8, .v (.int .i64 i))] ∧ mm = [.arr 33 2 ((l.take i).map avCh)]) l.length ?_ ?_
  · exact ⟨[(3, 33, 2)], [0], rfl, rfl, 0, by omega, by simp, by simp⟩
  · rintro j ts mm ⟨i, hi, rfl, rfl⟩
    by_cases hlt : i < l.length
    · obtain ⟨x, hx⟩ : ∃ x, l[i]? = some x := ⟨_, List.getElem?_eq_getElem (by omega)⟩
      have hd : decide ((i : Int) < (l.length : Int)) = true := by rw [decide_eq_true_eq]; omega
      have hd2 : decide (i < l.length) = true := by simp [hlt]
      have h64 : IntKind.wrap .i64 ((i : Int) + 1) = ((i + 1 : Nat) : Int) := by rw [IntWalk.i64_in _ (by omega)]; rfl
      have hul : (l.take i).length ≤ 1000000 := by simp; omega
      have hst := take_more hx
      obtain ⟨a, d⟩ := x
      have hxc : (AV.agg [AV.v (.bool a), .v (.int .u8 d)]).shaped = true := by simp [AV.shaped, AV.one, Value.oneCell']
      repeat' with_reducible first
        | refine wp_regionS (seg_eval (by simp -dsimp -implicitDefEqProofs [avCh, hd, hd2, h64, hx, hxc, hul]; rfl) ?_)
        | refine wp_region (seg_eval (by simp -dsimp -implicitDefEqProofs [avCh, hd, hd2, h64, hx, hxc, hul]; rfl) ?_)
        | refine wp_drawsS (seg_eval (by simp -dsimp -implicitDefEqProofs [avCh, hd, hd2, h64, hx, hxc, hul]; rfl) ?_)
        | refine wp_draws (seg_eval (by simp -dsimp -implicitDefEqProofs [avCh, hd, hd2, h64, hx, hxc, hul]; rfl) ?_)
        | refine seg_fin ?_
        | refine seg_pan ?_
        | refine seg_both ?_ ?_
        | refine seg_case (fun x h => ?_) (fun h => ?_)
        | refine seg_gate (fun h => ?_) (fun h => ?_)
        | refine seg_need ?_ ?_
        | refine wp_assoc ?_ | refine wp_skipS ?_ | refine wp_retS ?_ | refine wp_exitS ?_ | refine wp_dropS (wp_eqT (by simp -dsimp -implicitDefEqProofs; rfl) ?_) | refine wp_sealS (by simp -dsimp -implicitDefEqProofs; rfl) ?_ | refine wp_seal (by simp -dsimp -implicitDefEqProofs; rfl) ?_ | refine wp_pack_out ?_ | refine wp_blockS ?_ | refine wp_skip' ?_ | refine wp_ret' ?_ | refine wp_exit' ?_ | refine wp_drop (wp_eqT (by simp -dsimp -implicitDefEqProofs; rfl) ?_) | refine wp_block' ?_
        | refine wp_condVS (by simp -dsimp -implicitDefEqProofs; rfl) ?_
        | refine wp_condV (by simp -dsimp -implicitDefEqProofs; rfl) ?_
        | refine cond_t ?_ | refine cond_f ?_ | refine cond_v (fun h => ?_) (fun h => ?_)
        | refine post_then ?_ | refine post_thenE ?_ | refine post_thenP ?_ | refine post_blkP ?_ | refine post_thenR ?_ | refine post_blkN ?_ | refine post_blkE ?_ | refine post_blkF rfl ?_ | refine post_blkR ?_
        | refine seg_eval (by simp -dsimp -implicitDefEqProofs [avCh, hd, hd2, h64, hx, hxc, hul]; rfl) ?_
      all_goals first
        | omega
        | exact ⟨j - 1, by omega, [], [3], rfl, rfl, i + 1, by omega, by simp [avCh], by rw [hst]; simp [avCh]⟩
        | trace_state
    · have hd : decide ((i : Int) < (l.length : Int)) = false := by rw [decide_eq_false_iff_not]; omega
      have hd2 : decide (i < l.length) = false := by simp [hlt]
      have hil : l.take i = l := List.take_of_length_le (by omega)
      rw [hil]
      repeat' with_reducible first
        | refine wp_regionS (seg_eval (by simp -dsimp -implicitDefEqProofs [hd, hd2]; rfl) ?_)
        | refine wp_region (seg_eval (by simp -dsimp -implicitDefEqProofs [hd, hd2]; rfl) ?_)
        | refine wp_drawsS (seg_eval (by simp -dsimp -implicitDefEqProofs [hd, hd2]; rfl) ?_)
        | refine wp_draws (seg_eval (by simp -dsimp -implicitDefEqProofs [hd, hd2]; rfl) ?_)
        | refine seg_fin ?_
        | refine seg_pan ?_
        | refine seg_both ?_ ?_
        | refine seg_case (fun x h => ?_) (fun h => ?_)
        | refine seg_gate (fun h => ?_) (fun h => ?_)
        | refine seg_need ?_ ?_
        | refine wp_assoc ?_ | refine wp_skipS ?_ | refine wp_retS ?_ | refine wp_exitS ?_ | refine wp_dropS (wp_eqT (by simp -dsimp -implicitDefEqProofs; rfl) ?_) | refine wp_sealS (by simp -dsimp -implicitDefEqProofs; rfl) ?_ | refine wp_seal (by simp -dsimp -implicitDefEqProofs; rfl) ?_ | refine wp_pack_out ?_ | refine wp_blockS ?_ | refine wp_skip' ?_ | refine wp_ret' ?_ | refine wp_exit' ?_ | refine wp_drop (wp_eqT (by simp -dsimp -implicitDefEqProofs; rfl) ?_) | refine wp_block' ?_
        | refine wp_condVS (by simp -dsimp -implicitDefEqProofs; rfl) ?_
        | refine wp_condV (by simp -dsimp -implicitDefEqProofs; rfl) ?_
        | refine cond_t ?_ | refine cond_f ?_ | refine cond_v (fun h => ?_) (fun h => ?_)
        | refine post_then ?_ | refine post_thenE ?_ | refine post_thenP ?_ | refine post_blkP ?_ | refine post_thenR ?_ | refine post_blkN ?_ | refine post_blkE ?_ | refine post_blkF rfl ?_ | refine post_blkR ?_
        | refine seg_eval (by simp -dsimp -implicitDefEqProofs [hd, hd2]; rfl) ?_
      all_goals first
        | omega
        | exact post_fin rfl rfl ⟨[0], [], rfl, rfl, rfl, rfl⟩
        | trace_state
end Go.Proofs.YtjmgnodeohmboaaDoor.Am
