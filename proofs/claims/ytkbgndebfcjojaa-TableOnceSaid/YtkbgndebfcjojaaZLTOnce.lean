/-
  The law TableOnce holds: for every input the call returns true, and each argument reads behind it as it did before.
-/
import Derived.Test.YtkbgndebfcjojaaZUTo
import Derived.Test.YtkbgndebfcjojaaZLGa
namespace Go.Proofs.Ytkbgndebfcjojaa
set_option linter.unusedSimpArgs false
set_option linter.unusedVariables false
open Go.ChangeShapes Go.WideShapes Go.ChangeAt Go.RowKit Go.ChangeMaps Am

set_option maxRecDepth 100000 in
theorem tableOnce_lifted (os : Os) (started : os.Started) (H : Type) (enc : TypeId × Value → H) :
    ReturnsInHanded {} Try.checked os 5 .any (Rows.tableOnceSpec.pre6 enc Try.prog Try.f5 Rows.tableOnceRow.domain false) (Rows.tableOnceSpec.post enc Try.prog Try.f5 false true false false) := by
  refine returnsInHanded_of_change (C := Try.checked) own started (by kernel_rfl) Try.func5
    (ChangeSpec.witness6 (enc := enc) (C := Try.checked) false ⟨#[], #[.int .u16 0, .slice none 0 0], []⟩ 8 (by kernel_rfl) (by kernel_rfl) (by kernel_rfl) (by kernel_rfl)) ?_
  intro W base args ds gs before hval0 hW hcnd _
  have hval : ∀ (j : Nat) t v, Try.f5.params[j]? = some t → args[j]? = some v → Value.okWide Try.prog W .any base t v := hval0
  have hW' := hW
  obtain ⟨p, q, hA0, hV, rfl, hfz, hnd⟩ := hW
  have hA : DataW.TrodAll enc Try.prog W 0 (fun _ => true) true Try.f5.params.toList args.toList ds p := hA0
  rw [Try.params5] at hA hval
  obtain ⟨v0, v1, d0, d1, p0, p1, rfl, rfl, rfl, h0, h1⟩ := trodAll_two hA
  obtain ⟨rfl, rfl⟩ := trodVars_none hV
  clear hA0 hval0
  simp only [List.append_nil] at hW'
  have hlt := hW'.lt
  obtain ⟨a0, x0, o0⟩ := set_of_trod (hval 0 23 v0 rfl rfl) h0
  obtain ⟨a1, x1, o1⟩ := acts_of_trod (hval 1 52 v1 rfl rfl) h1
  refine (law_calls tableOnce_ok ⟨Try.f5, by kernel_rfl, by kernel_rfl, by kernel_rfl⟩ (args := [.v (.int .u16 ↑a0), .fsl 6 (a1.map avAc)]) (vs := [v0, v1]) (w := W) (x := .bool true)
    (sp2_at (inj_avI .u16) inj_avAcs (a0 : Int) a1 ⟨⟨by omega, by omega⟩, o1.1, o1.2⟩) (.cons x0 (.cons x1 .nil))).mono fun e W' ⟨he, hg⟩ => ?_
  subst he
  exact ⟨_, rfl, post_of_below (pv := []) hW' (fun _ _ _ => trodAll_mk1 (shut_bool Try.underlying4 _)) (fun sp hsp => trodAll_mk2 (WideElems.Trod_stays laidOut (by kernel_rfl) (of_decide_eq_true (by kernel_rfl)) h0 (fun x hx => hg.same (hlt x (by first | (simp [hx]; done) | (simp at hx; done)))) (fun x hx => hsp x (by first | (simp [hx]; done) | (simp at hx; done)))) (WideElems.Trod_stays laidOut (by kernel_rfl) (of_decide_eq_true (by kernel_rfl)) h1 (fun x hx => hg.same (hlt x (by first | (simp [hx]; done) | (simp at hx; done)))) (fun x hx => hsp x (by first | (simp [hx]; done) | (simp at hx; done))))) (fun _ _ => rfl) (by simp) hg (ok_one (by kernel_rfl) rfl (okWide_bool_mk Try.underlying4 _))⟩

theorem tableOnce_holds : Rows.TableOnceSaid :=
  OpenClaim.holds_of_wide 5 Try.f5 rfl rfl rfl rfl rfl rfl rfl ⟨rfl, rfl, rfl, rfl, rfl⟩ rfl rfl rfl rfl rfl (by kernel_rfl) Try.func5 (by kernel_rfl)
    (of_decide_eq_true (by kernel_rfl)) (by unfold Func.isWrapper; first | (rw [if_pos (by decide +kernel)]; kernel_rfl) | (rw [if_neg (by decide +kernel)]; exact ⟨rfl, rfl⟩))
    (fun os started H enc _ => tableOnce_lifted os started H enc)
#print axioms tableOnce_holds
end Go.Proofs.Ytkbgndebfcjojaa
