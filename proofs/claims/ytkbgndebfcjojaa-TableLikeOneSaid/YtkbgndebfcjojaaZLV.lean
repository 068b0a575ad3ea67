/-
  Votes, as the law over one broadcast reads them.
-/
import Derived.Test.YtkbgndebfcjojaaZUTl
import Derived.Test.YtkbgndebfcjojaaZLG
set_option maxRecDepth 100000
namespace Go.Proofs.Ytkbgndebfcjojaa.Am
set_option linter.unusedSimpArgs false
set_option linter.unusedVariables false
open Go Go.Proofs Go.ChangeShapes Go.WideShapes Go.ChangeAt Go.RowKit
theorem inj_avVos : ∀ x y : List Vo, avVos x = avVos y → x = y := fun x y h => by simp only [avVos, AV.fsl.injEq, true_and] at h; exact map_avVo h
section
variable {H : Type} {enc : TypeId × Value → H} {w : World} {spare : Nat → Bool} {held : Bool} {v : Value} {d : DataW H} {p : List MemPlace} {base : Nat}
theorem rd_vote : Rd enc Try.prog 70 3 (fun zs => ∃ a : Vo, .agg zs = avVo a ∧ a.w < 256) := by
  have h : Rd enc Try.prog 70 3 (Cat [(3, 1, fun zs => ∃ n, zs = [.v (.int .i64 n)] ∧ (Lit.int .i64 n).wf = true), (5, 1, fun zs => ∃ n, zs = [.v (.int .u8 n)] ∧ (Lit.int .u8 n).wf = true), (9, 1, fun zs => ∃ s, zs = [.v (.string s)])]) :=
    rd_struct _ Try.underlying70 (by kernel_rfl) rfl (by kernel_rfl) (by
      intro r hr
      simp only [List.mem_cons, List.not_mem_nil, or_false] at hr
      rcases hr with rfl | rfl | rfl
      · exact rd_3
      · exact rd_5
      · exact rd_9)
  refine ⟨h.1, fun w spare held fuel cs y hh hl => ?_⟩
  obtain ⟨zs, ⟨_, _, rfl, ⟨k, rfl, _⟩, _, _, rfl, ⟨u, rfl, hu⟩, _, _, rfl, ⟨s, rfl⟩, rfl⟩, a2⟩ := h.2 w spare held fuel cs y hh hl
  obtain ⟨u0, u1⟩ := wf_u8 hu
  exact ⟨_, ⟨⟨k, u.toNat, s⟩, by simp [avVo, Int.toNat_of_nonneg u0], by simp only; omega⟩, a2⟩
theorem rd_votes : Rd enc Try.prog 68 1 (fun zs => ∃ l : List Vo, zs = [.fsl 3 (l.map avVo)] ∧ (∀ a ∈ l, a.w < 256) ∧ l.length ≤ maxLen) := by
  have h := rd_sliceA (enc := enc) (P := Try.prog) (t := 68) (k := 3) Try.underlying68 (by kernel_rfl) (by decide) rd_vote
  refine ⟨h.1, fun w spare held fuel cs y hh hl => ?_⟩
  obtain ⟨zs, ⟨es, rfl, h1, h2⟩, a2⟩ := h.2 w spare held fuel cs y hh hl
  obtain ⟨l, rfl, hl⟩ := list_of' (av := avVo) (Q := fun a => a.w < 256) fun a ha => by
    obtain ⟨zs, rfl, m, e, hm⟩ := h1 a ha
    exact ⟨m, e, hm⟩
  exact ⟨_, ⟨l, rfl, hl, by simpa using h2⟩, a2⟩
theorem votes_of_trod (hv : Value.okWide Try.prog w .any base 68 v) (h : DataW.Trod enc Try.prog w 0 spare held 68 v d p) :
    ∃ l : List Vo, VR (old w) w [] (.fsl 3 (l.map avVo)) v ∧ (∀ a ∈ l, a.w < 256) ∧ l.length ≤ maxLen := by
  obtain ⟨a, ⟨l, e, h1, h2⟩, h3⟩ := arg_slice rd_votes ⟨_, Try.underlying68⟩ hv h
  cases e
  exact ⟨l, h3, h1, h2⟩
end
end Go.Proofs.Ytkbgndebfcjojaa.Am
