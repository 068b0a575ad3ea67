/-
  The law ScriptShort holds: for every input the call returns true, and each argument reads behind it as it did before.
-/
import Derived.Test.YtajpaagbfmjacaaGreatDoorZS4
import Derived.Test.YtajpaagbfmjacaaGreatDoorZLG
import Derived.Test.YtajpaagbfmjacaaGreatDoorTie
import Derived.Test.YtajpaagbfmjacaaGreatDoorCards
import Derived.SevenTiedAt
namespace Go.Proofs.YtajpaagbfmjacaaGreatDoor
set_option linter.unusedSimpArgs false
set_option linter.unusedVariables false
open Go.ChangeShapes Go.WideShapes Go.ChangeAt Go.RowKit Go.ChangeMaps Am

set_option maxRecDepth 100000 in
theorem scriptShort_lifted (os : Os) (started : os.Started) (H : Type) (enc : TypeId × Value → H) :
    ReturnsInHanded {} Tryz.checked os 4 .any (fun w args => (Rows.scriptShortSpec.pre enc Tryz.prog Tryz.f4 Rows.scriptShortRow.domain false w args ∧ laidMet Tryz.prog laidL w) ∧ sizedMet enc Tryz.prog Tryz.f4 (OpenSpec.ofChange Rows.scriptShortSpec) false w args) (Rows.scriptShortSpec.post enc Tryz.prog Tryz.f4 false true false false) := by
  refine returnsInHanded_of_change_and (C := Tryz.checked) (X := fun w _ => laidMet Tryz.prog laidL w) (fun _ _ _ hh h => h.of_heap hh) own started (by kernel_rfl) Tryz.func4
    (ChangeSpec.witness_at (enc := enc) (C := Tryz.checked) (os := os) (X := fun w _ => laidMet Tryz.prog laidL w) false (laidWorld os) #[.slice none 0 0, .int .u16 0] 8 rfl (by kernel_rfl) (by kernel_rfl) (by kernel_rfl) (by kernel_rfl) (by kernel_rfl) (laidWorld_met os _)) ?_
  intro W base args ds gs before hval0 hW hcnd hsz0 hL _
  have hval : ∀ (j : Nat) t v, Tryz.f4.params[j]? = some t → args[j]? = some v → Value.okWide Tryz.prog W .any base t v := hval0
  have hW' := hW
  obtain ⟨p, q, hA0, hV, rfl, hfz, hnd⟩ := hW
  have hA : DataW.TrodAll enc Tryz.prog W 0 (fun _ => true) true Tryz.f4.params.toList args.toList ds p := hA0
  rw [Tryz.params4] at hA hval
  obtain ⟨v0, v1, d0, d1, p0, p1, rfl, rfl, rfl, h0, h1⟩ := trodAll_two hA
  obtain ⟨rfl, rfl⟩ := trodVars_none hV
  clear hA0 hval0
  simp only [List.append_nil] at hW'
  have hlt := hW'.lt
  obtain ⟨a0, x0⟩ := bytes_of_trod h0 (fun cs h => by obtain ⟨_, _, _, rfl⟩ := okWide_slice Tryz.underlying22 (hval 0 22 v0 rfl rfl); cases h)
  have k1 := h1
  obtain ⟨a1, rfl, rfl, rfl, w1⟩ := open_int Tryz.underlying39 (hval 1 39 v1 rfl rfl) h1
  have b1 := u16_wf w1
  refine (law_calls short_ok ⟨Tryz.f4, by kernel_rfl, by kernel_rfl, by kernel_rfl⟩ (args := [.fsl 1 (bv a0), .v (.int .u16 a1)]) (vs := [v0, .int .u16 a1]) (w := W) (x := .bool true)
    (by simp only [spShort, inB_bv, Option.bind_some]; rw [if_pos ⟨b1.1, b1.2⟩]) (.cons x0 (.cons (.v _) .nil)) (gl_of_laid hL)).mono fun e W' ⟨he, hg⟩ => ?_
  subst he
  exact ⟨_, rfl, post_of_below (pv := []) hW' (fun _ _ _ => trodAll_mk1 (shut_bool Tryz.underlying4 _)) (fun sp hsp => trodAll_mk2 (WideElems.Trod_stays laidOut (by kernel_rfl) (of_decide_eq_true (by kernel_rfl)) h0 (fun x hx => hg.same (hlt x (by first | (simp [hx]; done) | (simp at hx; done)))) (fun x hx => hsp x (by first | (simp [hx]; done) | (simp at hx; done)))) (WideElems.Trod_stays laidOut (by kernel_rfl) (of_decide_eq_true (by kernel_rfl)) k1 (fun x hx => hg.same (hlt x (by first | (simp [hx]; done) | (simp at hx; done)))) (fun x hx => hsp x (by first | (simp [hx]; done) | (simp at hx; done))))) (fun _ _ => rfl) (by simp) hg (ok_one (by kernel_rfl) rfl (okWide_bool_mk Tryz.underlying4 _))⟩

theorem scriptShort_row : Rows.ScriptShortSaid :=
  OpenClaim.holds_of_wide 4 Tryz.f4 rfl rfl rfl rfl rfl rfl rfl ⟨rfl, rfl, rfl, rfl, rfl⟩ rfl rfl rfl rfl rfl (by kernel_rfl) Tryz.func4 (by kernel_rfl)
    (of_decide_eq_true (by kernel_rfl)) (by unfold Func.isWrapper; first | (rw [if_pos (by decide +kernel)]; kernel_rfl) | (rw [if_neg (by decide +kernel)]; exact ⟨rfl, rfl⟩))
    (fun os started H enc _ => scriptShort_lifted os started H enc)
theorem scriptShort_holds : Rows.ScriptShortCardSaid :=
  Claim7.holds_tied_plain_at .later [] _ true _ true scriptShort_row (fun _ h => by cases h) (by kernel_rfl) (fun _ h => by cases h) scriptShort_row_tie rfl ⟨rfl, rfl⟩ (by kernel_rfl) rfl
    (fun f fn hf hfn => by
      obtain rfl : f = 4 := Option.some.inj ((show Tryz.prog.funcNamed Rows.scriptShortRow.func = some 4 by kernel_rfl).symm.trans hf) |>.symm
      obtain rfl : fn = Tryz.f4 := (Option.some.inj (Tryz.func4.symm.trans hfn)).symm
      refine ⟨by kernel_rfl, fun j t ht => ?_⟩
      rw [Tryz.params4] at ht
      rcases j with _ | _ | j
      · obtain rfl : t = 22 := by simpa using ht.symm
        exact (show Tryz.prog.wantsStandIn 22 = false by kernel_rfl)
      · obtain rfl : t = 39 := by simpa using ht.symm
        exact (show Tryz.prog.wantsStandIn 39 = false by kernel_rfl)
      · simp at ht)
    (by kernel_rfl)
#print axioms scriptShort_holds
end Go.Proofs.YtajpaagbfmjacaaGreatDoor
