/-
  The law TableLikeOne holds: for every input the call returns true, and each argument reads behind it as it did before.
-/
import Derived.Test.YtkbgndebfcjojaaZUTl
import Derived.Test.YtkbgndebfcjojaaZLV
namespace Go.Proofs.Ytkbgndebfcjojaa
set_option linter.unusedSimpArgs false
set_option linter.unusedVariables false
open Go.ChangeShapes Go.WideShapes Go.ChangeAt Go.RowKit Go.ChangeMaps Am

set_option maxRecDepth 100000 in
theorem tableLikeOne_lifted (os : Os) (started : os.Started) (H : Type) (enc : TypeId × Value → H) :
    ReturnsInHanded {} Try.checked os 8 .any (Rows.tableLikeOneSpec.pre6 enc Try.prog Try.f8 Rows.tableLikeOneRow.domain false) (Rows.tableLikeOneSpec.post enc Try.prog Try.f8 false true false false) := by
  refine returnsInHanded_of_change (C := Try.checked) own started (by kernel_rfl) Try.func8
    (ChangeSpec.witness6 (enc := enc) (C := Try.checked) false ⟨#[], #[.int .u16 0, .int .u8 0, .slice none 0 0], []⟩ 8 (by kernel_rfl) (by kernel_rfl) (by kernel_rfl) (by kernel_rfl)) ?_
  intro W base args ds gs before hval0 hW hcnd _
  have hval : ∀ (j : Nat) t v, Try.f8.params[j]? = some t → args[j]? = some v → Value.okWide Try.prog W .any base t v := hval0
  have hW' := hW
  obtain ⟨p, q, hA0, hV, rfl, hfz, hnd⟩ := hW
  have hA : DataW.TrodAll enc Try.prog W 0 (fun _ => true) true Try.f8.params.toList args.toList ds p := hA0
  rw [Try.params8] at hA hval
  obtain ⟨v0, v1, v2, d0, d1, d2, p0, p1, p2, rfl, rfl, rfl, h0, h1, h2⟩ := trodAll_three hA
  obtain ⟨rfl, rfl⟩ := trodVars_none hV
  clear hA0 hval0
  simp only [List.append_nil] at hW'
  have hlt := hW'.lt
  obtain ⟨a0, x0, o0⟩ := set_of_trod (hval 0 23 v0 rfl rfl) h0
  have k1 := h1
  obtain ⟨a1, rfl, rfl, rfl, w1⟩ := open_int Try.underlying5 (hval 1 5 v1 rfl rfl) h1
  have b1 := u8_wf w1
  obtain ⟨a2, x2, o2⟩ := votes_of_trod (hval 2 68 v2 rfl rfl) h2
  refine (law_calls tableLikeOne_ok ⟨Try.f8, by kernel_rfl, by kernel_rfl, by kernel_rfl⟩ (args := [.v (.int .u16 ↑a0), .v (.int .u8 a1), .fsl 3 (a2.map avVo)]) (vs := [v0, .int .u8 a1, v2]) (w := W) (x := .bool true)
    (sp3_at (inj_avI .u16) (inj_avI .u8) inj_avVos (a0 : Int) a1 a2 ⟨⟨by omega, by omega⟩, ⟨by omega, by omega⟩, o2.1, o2.2⟩) (.cons x0 (.cons (.v _) (.cons x2 .nil)))).mono fun e W' ⟨he, hg⟩ => ?_
  subst he
  exact ⟨_, rfl, post_of_below (pv := []) hW' (fun _ _ _ => trodAll_mk1 (shut_bool Try.underlying4 _)) (fun sp hsp => trodAll_mk3 (WideElems.Trod_stays laidOut (by kernel_rfl) (of_decide_eq_true (by kernel_rfl)) h0 (fun x hx => hg.same (hlt x (by first | (simp [hx]; done) | (simp at hx; done)))) (fun x hx => hsp x (by first | (simp [hx]; done) | (simp at hx; done)))) (WideElems.Trod_stays laidOut (by kernel_rfl) (of_decide_eq_true (by kernel_rfl)) k1 (fun x hx => hg.same (hlt x (by first | (simp [hx]; done) | (simp at hx; done)))) (fun x hx => hsp x (by first | (simp [hx]; done) | (simp at hx; done)))) (WideElems.Trod_stays laidOut (by kernel_rfl) (of_decide_eq_true (by kernel_rfl)) h2 (fun x hx => hg.same (hlt x (by first | (simp [hx]; done) | (simp at hx; done)))) (fun x hx => hsp x (by first | (simp [hx]; done) | (simp at hx; done))))) (fun _ _ => rfl) (by simp) hg (ok_one (by kernel_rfl) rfl (okWide_bool_mk Try.underlying4 _))⟩

theorem tableLikeOne_holds : Rows.TableLikeOneSaid :=
  OpenClaim.holds_of_wide 8 Try.f8 rfl rfl rfl rfl rfl rfl rfl ⟨rfl, rfl, rfl, rfl, rfl⟩ rfl rfl rfl rfl rfl (by kernel_rfl) Try.func8 (by kernel_rfl)
    (of_decide_eq_true (by kernel_rfl)) (by unfold Func.isWrapper; first | (rw [if_pos (by decide +kernel)]; kernel_rfl) | (rw [if_neg (by decide +kernel)]; exact ⟨rfl, rfl⟩))
    (fun os started H enc _ => tableLikeOne_lifted os started H enc)
#print axioms tableLikeOne_holds
end Go.Proofs.Ytkbgndebfcjojaa
