/-
  The law BallotTwice holds: for every input the call returns true, and each argument reads behind it as it did before.
-/
import Derived.Test.YtbponegjfccgfaaB15
import Derived.Test.YtbponegjfccgfaaLQ
namespace Go.Proofs.Ytbponegjfccgfaa
set_option linter.unusedSimpArgs false
set_option linter.unusedVariables false
open Go.ChangeShapes Go.WideShapes Go.ChangeAt Go.RowKit Go.ChangeMaps Am

set_option maxRecDepth 100000 in
theorem ballotTwice_lifted (os : Os) (started : os.Started) (H : Type) (enc : TypeId × Value → H) :
    ReturnsInHanded {} Try.checked os 12 .any (Rows.ballotTwiceSpec.pre6 enc Try.prog Try.f12 Rows.ballotTwiceRow.domain false) (Rows.ballotTwiceSpec.post enc Try.prog Try.f12 false true false false) := by
  refine returnsInHanded_of_change (C := Try.checked) own started (by kernel_rfl) Try.func12
    (ChangeSpec.witness6 (enc := enc) (C := Try.checked) false ⟨#[], #[.agg #[.int .i64 0, .int .u16 0], .slice none 0 0, .agg #[.bool false, .int .u8 0, .bool false, .int .u8 0]], []⟩ 8 (by kernel_rfl) (by kernel_rfl) (by kernel_rfl) (by kernel_rfl)) ?_
  intro W base args ds gs before hval0 hW hcnd _
  have hval : ∀ (j : Nat) t v, Try.f12.params[j]? = some t → args[j]? = some v → Value.okWide Try.prog W .any base t v := hval0
  have hW' := hW
  obtain ⟨p, q, hA0, hV, rfl, hfz, hnd⟩ := hW
  have hA : DataW.TrodAll enc Try.prog W 0 (fun _ => true) true Try.f12.params.toList args.toList ds p := hA0
  rw [Try.params12] at hA hval
  obtain ⟨v0, v1, v2, d0, d1, d2, p0, p1, p2, rfl, rfl, rfl, h0, h1, h2⟩ := trodAll_three hA
  obtain ⟨rfl, rfl⟩ := trodVars_none hV
  clear hA0 hval0
  simp only [List.append_nil] at hW'
  have hlt := hW'.lt
  obtain ⟨a0, x0, o0⟩ := roll_of_trod (hval 0 56 v0 rfl rfl) h0
  obtain ⟨a1, x1, o1⟩ := casts_of_trod (hval 1 57 v1 rfl rfl) h1
  obtain ⟨a2, x2, o2⟩ := two_of_trod (hval 2 92 v2 rfl rfl) h2
  refine (law_calls ballotTwice_ok ⟨Try.f12, by kernel_rfl, by kernel_rfl, by kernel_rfl⟩ (args := [.agg [.v (.int .i64 a0.1), .v (.int .u16 ↑(a0.2))], .fsl 3 (a1.map avCt), .agg [.v (.bool a2.1.1), .v (.int .u8 a2.1.2), .v (.bool a2.2.1), .v (.int .u8 a2.2.2)]]) (vs := [v0, v1, v2]) (w := W) (x := .bool true)
    (by unfold spBallotTwice spc; exact dif_pos ⟨(a0.1, a0.2, a1, a2), rfl, o0, o1.1, o1.2, o2⟩) (.cons x0 (.cons x1 (.cons x2 .nil)))).mono fun e W' ⟨he, hg⟩ => ?_
  subst he
  exact ⟨_, rfl, post_of_below (pv := []) hW' (fun _ _ _ => trodAll_mk1 (shut_bool Try.underlying4 _)) (fun sp hsp => trodAll_mk3 (WideElems.Trod_stays laidOut (by kernel_rfl) (of_decide_eq_true (by kernel_rfl)) h0 (fun x hx => hg.same (hlt x (by first | (simp [hx]; done) | (simp at hx; done)))) (fun x hx => hsp x (by first | (simp [hx]; done) | (simp at hx; done)))) (WideElems.Trod_stays laidOut (by kernel_rfl) (of_decide_eq_true (by kernel_rfl)) h1 (fun x hx => hg.same (hlt x (by first | (simp [hx]; done) | (simp at hx; done)))) (fun x hx => hsp x (by first | (simp [hx]; done) | (simp at hx; done)))) (WideElems.Trod_stays laidOut (by kernel_rfl) (of_decide_eq_true (by kernel_rfl)) h2 (fun x hx => hg.same (hlt x (by first | (simp [hx]; done) | (simp at hx; done)))) (fun x hx => hsp x (by first | (simp [hx]; done) | (simp at hx; done))))) (fun _ _ => rfl) (by simp) hg (ok_one (by kernel_rfl) rfl (okWide_bool_mk Try.underlying4 _))⟩

theorem ballotTwice_holds : Rows.BallotTwiceSaid :=
  OpenClaim.holds_of_wide 12 Try.f12 rfl rfl rfl rfl rfl rfl rfl ⟨rfl, rfl, rfl, rfl, rfl⟩ rfl rfl rfl rfl rfl (by kernel_rfl) Try.func12 (by kernel_rfl)
    (of_decide_eq_true (by kernel_rfl)) (by unfold Func.isWrapper; first | (rw [if_pos (by decide +kernel)]; kernel_rfl) | (rw [if_neg (by decide +kernel)]; exact ⟨rfl, rfl⟩))
    (fun os started H enc _ => ballotTwice_lifted os started H enc)
#print axioms ballotTwice_holds
end Go.Proofs.Ytbponegjfccgfaa
