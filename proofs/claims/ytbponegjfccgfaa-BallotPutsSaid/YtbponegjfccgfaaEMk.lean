/-
  MARKS AS ELEMENTS: who, and a vector.
-/
import Derived.Test.YtbponegjfccgfaaV1
import Derived.Test.YtbponegjfccgfaaFL
import Derived.Test.YtbponegjfccgfaaK0
import Derived.Test.YtbponegjfccgfaaC4
namespace Go.Proofs.Ytbponegjfccgfaa.Am
set_option linter.unusedSimpArgs false
set_option linter.unusedVariables false
open Go Go.Proofs
attribute [local irreducible] wpA
attribute [-simp] splice

structure Mk where
  who : Int
  past : List Nat
def cMk (m : Mk) : List AV := mc m.who m.past
def avMk (m : Mk) : AV := .agg (cMk m)
def okMk (m : Mk) : Prop := 0 ≤ m.who ∧ m.who < 256 ∧ okV m.past
def keyMk (m : Mk) : Int := m.who
theorem flat_vc (v : List Nat) : FlatL (vc v) := fun a ha => by
  obtain ⟨n, _, rfl⟩ := List.mem_map.1 ha
  exact flat_int _ _
theorem flatMk (m : Mk) (_ : okMk m) : FlatL (cMk m) := flat_cons (flat_int _ _) (flat_vc _)
theorem lenMk (m : Mk) (h : okMk m) : (cMk m).length = 17 := mc_length h.2.2.1
theorem takeMk (m : Mk) (h : okMk m) : (cMk m).take 17 = cMk m := List.take_of_length_le (by rw [lenMk m h]; omega)
theorem inj_avMk {a b : Mk} (h : avMk a = avMk b) : a = b := by
  cases a; cases b
  simp only [avMk, cMk, AV.agg.injEq] at h
  obtain ⟨h1, h2⟩ := mc_inj h
  simp [h1, h2]

noncomputable def spOrdMk : Spec := spc (X := Mk × Mk) (fun p => ([avMk p.1, avMk p.2], [])) (fun p => okMk p.1 ∧ okMk p.2) (fun p => (.ret (.v (.int .i64 (cmpI (keyMk p.1) (keyMk p.2)))), []))
open Classical in
theorem ordAtMk (a b : Mk) : spOrdMk [.agg (cMk a), .agg (cMk b)] [] = if okMk a ∧ okMk b then some (.ret (.v (.int .i64 (cmpI (keyMk a) (keyMk b)))), []) else none :=
  spc_at (f := fun p : Mk × Mk => ([avMk p.1, avMk p.2], [])) (fun x y h => by
    simp only [Prod.mk.injEq, List.cons.injEq, and_true] at h
    exact Prod.ext (inj_avMk h.1) (inj_avMk h.2)) (a, b)
theorem ordMk_ok : CallOk Try.prog 43 spOrdMk := by
  refine ok_43 (Env.put_ok [] (Env.none_ok _) cmp8_ok) spOrdMk (wb_spc ?_)
  rintro ⟨⟨a, v⟩, ⟨b, w⟩⟩ ⟨ha, hb⟩
  have hv := ha.2.2.1
  have hw := hb.2.2.1
  simp only at hv hw
  simp only [avMk, cMk, keyMk]
  unfold ac_43
  repeat' first
      | with_reducible refine wp_regionS (seg_eval (by simp -dsimp -implicitDefEqProofs [hv, hw, spCmp8]; rfl) ?_)
      | with_reducible refine wp_region (seg_eval (by simp -dsimp -implicitDefEqProofs [hv, hw, spCmp8]; rfl) ?_)
      | with_reducible refine wp_drawsS (seg_eval (by simp -dsimp -implicitDefEqProofs [hv, hw, spCmp8]; rfl) ?_)
      | with_reducible refine wp_draws (seg_eval (by simp -dsimp -implicitDefEqProofs [hv, hw, spCmp8]; rfl) ?_)
      | with_reducible refine seg_fin ?_
      | with_reducible refine seg_pan ?_
      | with_reducible refine seg_both ?_ ?_
      | with_reducible refine seg_case (fun x h => ?_) (fun h => ?_)
      | with_reducible refine seg_gate (fun h => ?_) (fun h => ?_)
      | with_reducible refine seg_need ?_ ?_
      | with_reducible refine wp_assoc ?_ | with_reducible refine wp_skipS ?_ | with_reducible refine wp_retS ?_ | with_reducible refine wp_exitS ?_ | with_reducible refine wp_dropS (wp_eqT (by simp -dsimp -implicitDefEqProofs [hv, hw, spCmp8]; rfl) ?_) | with_reducible refine wp_sealS (by simp -dsimp -implicitDefEqProofs [hv, hw, spCmp8]; rfl) ?_ | with_reducible refine wp_seal (by simp -dsimp -implicitDefEqProofs [hv, hw, spCmp8]; rfl) ?_ | with_reducible refine wp_closeS (by simp -dsimp -implicitDefEqProofs [hv, hw, spCmp8]; rfl) ?_ | with_reducible refine wp_close (by simp -dsimp -implicitDefEqProofs [hv, hw, spCmp8]; rfl) ?_ | with_reducible refine wp_conc_out ?_ | with_reducible refine wp_open_out ?_ | with_reducible refine wp_pack_out ?_ | with_reducible refine wp_blockS ?_ | with_reducible refine wp_skip' ?_ | with_reducible refine wp_ret' ?_ | with_reducible refine wp_exit' ?_ | with_reducible refine wp_drop (wp_eqT (by simp -dsimp -implicitDefEqProofs [hv, hw, spCmp8]; rfl) ?_) | with_reducible refine wp_block' ?_
      | with_reducible refine wp_condVS (by simp -dsimp -implicitDefEqProofs [hv, hw, spCmp8]; rfl) ?_
      | with_reducible refine wp_condV (by simp -dsimp -implicitDefEqProofs [hv, hw, spCmp8]; rfl) ?_
      | with_reducible refine cond_t ?_ | with_reducible refine cond_f ?_ | with_reducible refine cond_v (fun h => ?_) (fun h => ?_)
      | with_reducible refine post_then ?_ | with_reducible refine post_thenE ?_ | with_reducible refine post_thenP ?_ | with_reducible refine post_blkP ?_ | with_reducible refine post_thenR ?_ | with_reducible refine post_blkN ?_ | with_reducible refine post_blkE ?_ | with_reducible refine post_blkF rfl ?_ | with_reducible refine post_blkR ?_
      | with_reducible refine seg_eval (by simp -dsimp -implicitDefEqProofs [hv, hw, spCmp8]; rfl) ?_
  all_goals first
    | omega
    | exact post_fin rfl rfl ⟨[], [], rfl, rfl, rfl, rfl⟩
    | trace_state
end Go.Proofs.Ytbponegjfccgfaa.Am
