/-
  The law PackDecodes holds: for every input the call returns true, and each argument reads behind it as it did before.
-/
import Derived.Test.YtbhbpahbopjfeaaF21
import Derived.Test.YtbhbpahbopjfeaaLB
namespace Go.Proofs.Ytbhbpahbopjfeaa
set_option linter.unusedSimpArgs false
set_option linter.unusedVariables false
open Go.ChangeShapes Go.WideShapes Go.ChangeAt Go.RowKit Go.ChangeMaps Am

set_option maxRecDepth 100000 in
theorem packDecodes_lifted (os : Os) (started : os.Started) (H : Type) (enc : TypeId × Value → H) :
    ReturnsInHanded {} Try.checked os 4 .any (Rows.packDecodesSpec.pre6 enc Try.prog Try.f4 Rows.packDecodesRow.domain false) (Rows.packDecodesSpec.post enc Try.prog Try.f4 false true false false) := by
  refine returnsInHanded_of_change (C := Try.checked) own started (by kernel_rfl) Try.func4
    (ChangeSpec.witness6 (enc := enc) (C := Try.checked) false ⟨#[], #[.slice none 0 0], []⟩ 8 (by kernel_rfl) (by kernel_rfl) (by kernel_rfl) (by kernel_rfl)) ?_
  intro W base args ds gs before hval0 hW hcnd _
  have hval : ∀ (j : Nat) t v, Try.f4.params[j]? = some t → args[j]? = some v → Value.okWide Try.prog W .any base t v := hval0
  have hW' := hW
  obtain ⟨p, q, hA0, hV, rfl, hfz, hnd⟩ := hW
  have hA : DataW.TrodAll enc Try.prog W 0 (fun _ => true) true Try.f4.params.toList args.toList ds p := hA0
  rw [Try.params4] at hA hval
  obtain ⟨v0, d0, rfl, rfl, h0⟩ := trodAll_one hA
  have p0 := p
  obtain ⟨rfl, rfl⟩ := trodVars_none hV
  clear hA0 hval0
  simp only [List.append_nil] at hW'
  have hlt := hW'.lt
  obtain ⟨a0, x0⟩ := bytes_of_trod h0 (fun cs h => by obtain ⟨_, _, _, rfl⟩ := okWide_slice Try.underlying26 (hval 0 26 v0 rfl rfl); cases h)
  refine (law_calls packDecodes_ok ⟨Try.f4, by kernel_rfl, by kernel_rfl, by kernel_rfl⟩ (args := [.fsl 1 (bv a0)]) (vs := [v0]) (w := W) (x := .bool true)
    (by simp only [spDecodes, inB_bv, Option.bind_some]) (.cons x0 .nil)).mono fun e W' ⟨he, hg⟩ => ?_
  subst he
  exact ⟨_, rfl, post_of_below (pv := []) hW' (fun _ _ _ => trodAll_mk1 (shut_bool Try.underlying4 _)) (fun sp hsp => trodAll_mk1 (WideElems.Trod_stays laidOut (by kernel_rfl) (of_decide_eq_true (by kernel_rfl)) h0 (fun x hx => hg.same (hlt x (by first | (simpa using hx) | (simp at hx; done)))) (fun x hx => hsp x (by first | (simpa using hx) | (simp at hx; done))))) (fun _ _ => rfl) (by simp) hg (ok_one (by kernel_rfl) rfl (okWide_bool_mk Try.underlying4 _))⟩

theorem packDecodes_holds : Rows.PackDecodesSaid :=
  OpenClaim.holds_of_wide 4 Try.f4 rfl rfl rfl rfl rfl rfl rfl ⟨rfl, rfl, rfl, rfl, rfl⟩ rfl rfl rfl rfl rfl (by kernel_rfl) Try.func4 (by kernel_rfl)
    (of_decide_eq_true (by kernel_rfl)) (by unfold Func.isWrapper; first | (rw [if_pos (by decide +kernel)]; kernel_rfl) | (rw [if_neg (by decide +kernel)]; exact ⟨rfl, rfl⟩))
    (fun os started H enc _ => packDecodes_lifted os started H enc)
#print axioms packDecodes_holds
end Go.Proofs.Ytbhbpahbopjfeaa
