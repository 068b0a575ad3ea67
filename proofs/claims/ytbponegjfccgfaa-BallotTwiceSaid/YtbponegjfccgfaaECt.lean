/-
  CASTS AS ELEMENTS: who, and a change.
-/
import Derived.Test.YtbponegjfccgfaaV1
import Derived.Test.YtbponegjfccgfaaFL
import Derived.Test.YtbponegjfccgfaaK0
import Derived.Test.YtbponegjfccgfaaC4
namespace Go.Proofs.Ytbponegjfccgfaa.Am
set_option linter.unusedSimpArgs false
set_option linter.unusedVariables false
open Go Go.Proofs
attribute [local irreducible] wpA
attribute [-simp] splice

structure Ct where
  who : Int
  add : Bool
  id : Int
deriving instance DecidableEq for Ct
def cCt (c : Ct) : List AV := [.v (.int .u8 c.who), .v (.bool c.add), .v (.int .u8 c.id)]
def avCt (c : Ct) : AV := .agg (cCt c)
def okCt (c : Ct) : Prop := 0 ≤ c.who ∧ c.who < 256 ∧ 0 ≤ c.id ∧ c.id < 256
def keyCt (c : Ct) : Int := c.who
theorem flatCt (c : Ct) (_ : okCt c) : FlatL (cCt c) := flat_cons (flat_int _ _) (flat_cons (flat_bool _) (flat_cons (flat_int _ _) flat_nil))
theorem lenCt (c : Ct) (_ : okCt c) : (cCt c).length = 3 := rfl
theorem takeCt (c : Ct) (_ : okCt c) : (cCt c).take 3 = cCt c := rfl
theorem inj_avCt {a b : Ct} (h : avCt a = avCt b) : a = b := by
  cases a; cases b
  simp only [avCt, cCt, AV.agg.injEq, List.cons.injEq, AV.v.injEq, Value.int.injEq, Value.bool.injEq, true_and, and_true] at h
  obtain ⟨h1, h2, h3⟩ := h
  subst h1 h2 h3
  rfl
theorem map_avCt : ∀ {l m : List Ct}, l.map avCt = m.map avCt → l = m
  | [], [], _ => rfl
  | [], _ :: _, h => by simp at h
  | _ :: _, [], h => by simp at h
  | a :: l, b :: m, h => by
    simp only [List.map_cons, List.cons.injEq] at h
    rw [inj_avCt h.1, map_avCt h.2]

noncomputable def spOrdCt : Spec := spc (X := Ct × Ct) (fun p => ([avCt p.1, avCt p.2], [])) (fun p => okCt p.1 ∧ okCt p.2) (fun p => (.ret (.v (.int .i64 (cmpI (keyCt p.1) (keyCt p.2)))), []))
open Classical in
theorem ordAtCt (a b : Ct) : spOrdCt [.agg (cCt a), .agg (cCt b)] [] = if okCt a ∧ okCt b then some (.ret (.v (.int .i64 (cmpI (keyCt a) (keyCt b)))), []) else none :=
  spc_at (f := fun p : Ct × Ct => ([avCt p.1, avCt p.2], [])) (fun x y h => by
    simp only [Prod.mk.injEq, List.cons.injEq, and_true] at h
    exact Prod.ext (inj_avCt h.1) (inj_avCt h.2)) (a, b)
theorem ordCt_ok : CallOk Try.prog 55 spOrdCt := by
  refine ok_55 (Env.put_ok [] (Env.none_ok _) cmp8_ok) spOrdCt (wb_spc ?_)
  rintro ⟨⟨a, a1, a2⟩, ⟨b, b1, b2⟩⟩ ⟨ha, hb⟩
  simp only [avCt, cCt, keyCt]
  unfold ac_55
  repeat' first
      | with_reducible refine wp_regionS (seg_eval (by simp -dsimp -implicitDefEqProofs [spCmp8]; rfl) ?_)
      | with_reducible refine wp_region (seg_eval (by simp -dsimp -implicitDefEqProofs [spCmp8]; rfl) ?_)
      | with_reducible refine wp_drawsS (seg_eval (by simp -dsimp -implicitDefEqProofs [spCmp8]; rfl) ?_)
      | with_reducible refine wp_draws (seg_eval (by simp -dsimp -implicitDefEqProofs [spCmp8]; rfl) ?_)
      | with_reducible refine seg_fin ?_
      | with_reducible refine seg_pan ?_
      | with_reducible refine seg_both ?_ ?_
      | with_reducible refine seg_case (fun x h => ?_) (fun h => ?_)
      | with_reducible refine seg_gate (fun h => ?_) (fun h => ?_)
      | with_reducible refine seg_need ?_ ?_
      | with_reducible refine wp_assoc ?_ | with_reducible refine wp_skipS ?_ | with_reducible refine wp_retS ?_ | with_reducible refine wp_exitS ?_ | with_reducible refine wp_dropS (wp_eqT (by simp -dsimp -implicitDefEqProofs [spCmp8]; rfl) ?_) | with_reducible refine wp_sealS (by simp -dsimp -implicitDefEqProofs [spCmp8]; rfl) ?_ | with_reducible refine wp_seal (by simp -dsimp -implicitDefEqProofs [spCmp8]; rfl) ?_ | with_reducible refine wp_closeS (by simp -dsimp -implicitDefEqProofs [spCmp8]; rfl) ?_ | with_reducible refine wp_close (by simp -dsimp -implicitDefEqProofs [spCmp8]; rfl) ?_ | with_reducible refine wp_conc_out ?_ | with_reducible refine wp_open_out ?_ | with_reducible refine wp_pack_out ?_ | with_reducible refine wp_blockS ?_ | with_reducible refine wp_skip' ?_ | with_reducible refine wp_ret' ?_ | with_reducible refine wp_exit' ?_ | with_reducible refine wp_drop (wp_eqT (by simp -dsimp -implicitDefEqProofs [spCmp8]; rfl) ?_) | with_reducible refine wp_block' ?_
      | with_reducible refine wp_condVS (by simp -dsimp -implicitDefEqProofs [spCmp8]; rfl) ?_
      | with_reducible refine wp_condV (by simp -dsimp -implicitDefEqProofs [spCmp8]; rfl) ?_
      | with_reducible refine cond_t ?_ | with_reducible refine cond_f ?_ | with_reducible refine cond_v (fun h => ?_) (fun h => ?_)
      | with_reducible refine post_then ?_ | with_reducible refine post_thenE ?_ | with_reducible refine post_thenP ?_ | with_reducible refine post_blkP ?_ | with_reducible refine post_thenR ?_ | with_reducible refine post_blkN ?_ | with_reducible refine post_blkE ?_ | with_reducible refine post_blkF rfl ?_ | with_reducible refine post_blkR ?_
      | with_reducible refine seg_eval (by simp -dsimp -implicitDefEqProofs [spCmp8]; rfl) ?_
  all_goals first
    | omega
    | exact post_fin rfl rfl ⟨[], [], rfl, rfl, rfl, rfl⟩
    | trace_state
end Go.Proofs.Ytbponegjfccgfaa.Am
