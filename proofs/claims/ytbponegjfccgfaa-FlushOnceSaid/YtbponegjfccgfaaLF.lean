/-
  THE ARGUMENTS OF THE LAWS OVER FLUSHES, as they are read.
-/
import Derived.Test.YtbponegjfccgfaaEMk
import Derived.Test.YtbponegjfccgfaaL0
set_option maxRecDepth 100000
namespace Go.Proofs.Ytbponegjfccgfaa.Am
set_option linter.unusedSimpArgs false
set_option linter.unusedVariables false
open Go Go.Proofs Go.ChangeShapes Go.WideShapes Go.ChangeAt Go.RowKit

theorem vec_of : ∀ (n : Nat) (zs : List AV), ArrOf (fun zs => ∃ n, zs = [AV.v (.int .u16 n)] ∧ (Lit.int .u16 n).wf = true) n zs → ∃ v : List Nat, zs = vc v ∧ v.length = n ∧ ∀ x ∈ v, x < 65536
  | 0, zs, h => ⟨[], h, rfl, by simp⟩
  | n + 1, zs, ⟨a, b, e, ⟨x, ex, wx⟩, hb⟩ => by
    obtain ⟨v, rfl, hl, hv⟩ := vec_of n b hb
    obtain ⟨x0, x1⟩ := wf_u16 wx
    refine ⟨x.toNat :: v, by rw [e, ex, vc_cons, Int.toNat_of_nonneg x0]; rfl, by simp [hl], fun y hy => ?_⟩
    rcases List.mem_cons.1 hy with rfl | hy
    · omega
    · exact hv y hy

section
variable {H : Type} {enc : TypeId × Value → H} {w : World} {spare : Nat → Bool} {held : Bool} {v : Value} {d : DataW H} {p : List MemPlace} {base : Nat}

theorem rd_vec : Rd enc Try.prog 28 16 (fun zs => ∃ v : List Nat, zs = vc v ∧ okV v) := by
  have h := rd_array (enc := enc) (P := Try.prog) (t := 28) (n := 16) (k := 1) Try.underlying28 (by kernel_rfl) (rd_int Try.underlying22 (by kernel_rfl))
  refine ⟨h.1, fun w spare held fuel cs y hh hl => ?_⟩
  obtain ⟨zs, a1, a2⟩ := h.2 w spare held fuel cs y hh hl
  obtain ⟨v, e, h1, h2⟩ := vec_of 16 zs a1
  exact ⟨zs, ⟨v, e, h1, h2⟩, a2⟩
theorem vec_of_trod (hv : Value.okWide Try.prog w .any base 28 v) (h : DataW.Trod enc Try.prog w 0 spare held 28 v d p) : ∃ x : List Nat, VR (old w) w [] (.agg (vc x)) v ∧ okV x := by
  obtain ⟨zs, ⟨x, rfl, hx⟩, h2⟩ := arg_agg rd_vec (.inr ⟨_, _, Try.underlying28⟩) hv h
  exact ⟨x, h2, hx⟩

theorem rd_mark : Rd enc Try.prog 30 17 (fun zs => ∃ m : Mk, zs = cMk m ∧ okMk m) := by
  have h : Rd enc Try.prog 30 17 (Cat [(5, 1, fun zs => ∃ n, zs = [.v (.int .u8 n)] ∧ (Lit.int .u8 n).wf = true), (28, 16, fun zs => ∃ v : List Nat, zs = vc v ∧ okV v)]) :=
    rd_struct _ Try.underlying30 (by kernel_rfl) rfl (by kernel_rfl) (by
      intro r hr
      simp only [List.mem_cons, List.not_mem_nil, or_false] at hr
      rcases hr with rfl | rfl
      · exact rd_5
      · exact rd_vec)
  refine ⟨h.1, fun w spare held fuel cs y hh hl => ?_⟩
  obtain ⟨zs, ⟨_, _, rfl, ⟨a, rfl, ha⟩, _, _, rfl, ⟨b, rfl, hb⟩, rfl⟩, a2⟩ := h.2 w spare held fuel cs y hh hl
  obtain ⟨a0, a1⟩ := wf_u8 ha
  exact ⟨_, ⟨⟨a, b⟩, by simp [cMk, mc], a0, a1, hb⟩, a2⟩
theorem mark_of_trod (hv : Value.okWide Try.prog w .any base 30 v) (h : DataW.Trod enc Try.prog w 0 spare held 30 v d p) : ∃ m : Mk, VR (old w) w [] (avMk m) v ∧ okMk m := by
  obtain ⟨zs, ⟨m, rfl, hm⟩, h2⟩ := arg_agg rd_mark (.inl ⟨_, Try.underlying30⟩) hv h
  exact ⟨m, h2, hm⟩

theorem rd_marks : Rd enc Try.prog 24 1 (fun zs => ∃ l : List Mk, zs = [.fsl 17 (l.map avMk)] ∧ (∀ y ∈ l, okMk y) ∧ l.length ≤ maxLen) := by
  have h := rd_sliceA (enc := enc) (P := Try.prog) (t := 24) (k := 17) Try.underlying24 (by kernel_rfl) (by decide) rd_mark
  refine ⟨h.1, fun w spare held fuel cs y hh hl => ?_⟩
  obtain ⟨zs, ⟨es, rfl, h1, h2⟩, a2⟩ := h.2 w spare held fuel cs y hh hl
  obtain ⟨l, rfl, hl⟩ := list_of' (av := avMk) (Q := okMk) fun a ha => by
    obtain ⟨zs, rfl, m, rfl, hm⟩ := h1 a ha
    exact ⟨m, rfl, hm⟩
  exact ⟨_, ⟨l, rfl, hl, by simpa using h2⟩, a2⟩
theorem marks_of_trod (hv : Value.okWide Try.prog w .any base 24 v) (h : DataW.Trod enc Try.prog w 0 spare held 24 v d p) :
    ∃ l : List Mk, VR (old w) w [] (.fsl 17 (l.map avMk)) v ∧ (∀ y ∈ l, okMk y) ∧ l.length ≤ maxLen := by
  obtain ⟨a, ⟨l, e, h1, h2⟩, h3⟩ := arg_slice rd_marks ⟨_, Try.underlying24⟩ hv h
  cases e
  exact ⟨l, h3, h1, h2⟩

theorem rd_flush : Rd enc Try.prog 26 2 (fun zs => ∃ f : Int × List Mk, zs = [.v (.int .u16 f.1), .fsl 17 (f.2.map avMk)] ∧ 0 ≤ f.1 ∧ f.1 < 65536 ∧ ∀ y ∈ f.2, okMk y) := by
  have h : Rd enc Try.prog 26 2 (Cat [(23, 1, fun zs => ∃ n, zs = [.v (.int .u16 n)] ∧ (Lit.int .u16 n).wf = true), (24, 1, fun zs => ∃ l : List Mk, zs = [.fsl 17 (l.map avMk)] ∧ (∀ y ∈ l, okMk y) ∧ l.length ≤ maxLen)]) :=
    rd_struct _ Try.underlying26 (by kernel_rfl) rfl (by kernel_rfl) (by
      intro r hr
      simp only [List.mem_cons, List.not_mem_nil, or_false] at hr
      rcases hr with rfl | rfl
      · exact rd_int Try.underlying23 (by kernel_rfl)
      · exact rd_marks)
  refine ⟨h.1, fun w spare held fuel cs y hh hl => ?_⟩
  obtain ⟨zs, ⟨_, _, rfl, ⟨a, rfl, ha⟩, _, _, rfl, ⟨b, rfl, hb, _⟩, rfl⟩, a2⟩ := h.2 w spare held fuel cs y hh hl
  obtain ⟨a0, a1⟩ := wf_u16 ha
  exact ⟨_, ⟨⟨a, b⟩, by simp, a0, a1, hb⟩, a2⟩
theorem flush_of_trod (hv : Value.okWide Try.prog w .any base 26 v) (h : DataW.Trod enc Try.prog w 0 spare held 26 v d p) :
    ∃ f : Int × List Mk, VR (old w) w [] (.agg [.v (.int .u16 f.1), .fsl 17 (f.2.map avMk)]) v ∧ 0 ≤ f.1 ∧ f.1 < 65536 ∧ ∀ y ∈ f.2, okMk y := by
  obtain ⟨zs, ⟨f, rfl, hf⟩, h2⟩ := arg_agg rd_flush (.inl ⟨_, Try.underlying26⟩) hv h
  exact ⟨f, h2, hf⟩
theorem set_of_trod (hv : Value.okWide Try.prog w .any base 23 v) (h : DataW.Trod enc Try.prog w 0 spare held 23 v d p) : ∃ s : Int, VR (old w) w [] (.v (.int .u16 s)) v ∧ 0 ≤ s ∧ s < 65536 := by
  obtain ⟨a, rfl, rfl, rfl, hw⟩ := open_int Try.underlying23 hv h
  exact ⟨a, .v _, wf_u16 hw⟩
end
end Go.Proofs.Ytbponegjfccgfaa.Am
