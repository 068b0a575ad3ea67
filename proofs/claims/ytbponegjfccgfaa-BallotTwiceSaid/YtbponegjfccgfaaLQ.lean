/-
  THE ARGUMENTS OF THE LAWS OVER BALLOTS, as they are read.
-/
import Derived.Test.YtbponegjfccgfaaB3
import Derived.Test.YtbponegjfccgfaaL0
set_option maxRecDepth 100000
namespace Go.Proofs.Ytbponegjfccgfaa.Am
set_option linter.unusedSimpArgs false
set_option linter.unusedVariables false
open Go Go.Proofs Go.ChangeShapes Go.WideShapes Go.ChangeAt Go.RowKit

section
variable {H : Type} {enc : TypeId × Value → H} {w : World} {spare : Nat → Bool} {held : Bool} {v : Value} {d : DataW H} {p : List MemPlace} {base : Nat}

theorem rd_change : Rd enc Try.prog 61 2 (fun zs => ∃ c : Bool × Int, zs = [.v (.bool c.1), .v (.int .u8 c.2)] ∧ 0 ≤ c.2 ∧ c.2 < 256) := by
  have h : Rd enc Try.prog 61 2 (Cat [(4, 1, fun zs => ∃ b, zs = [.v (.bool b)]), (5, 1, fun zs => ∃ n, zs = [.v (.int .u8 n)] ∧ (Lit.int .u8 n).wf = true)]) :=
    rd_struct _ Try.underlying61 (by kernel_rfl) rfl (by kernel_rfl) (by
      intro r hr
      simp only [List.mem_cons, List.not_mem_nil, or_false] at hr
      rcases hr with rfl | rfl
      · exact rd_bool Try.underlying4 (by kernel_rfl)
      · exact rd_5)
  refine ⟨h.1, fun w spare held fuel cs y hh hl => ?_⟩
  obtain ⟨zs, ⟨_, _, rfl, ⟨a, rfl⟩, _, _, rfl, ⟨b, rfl, hb⟩, rfl⟩, a2⟩ := h.2 w spare held fuel cs y hh hl
  obtain ⟨b0, b1⟩ := wf_u8 hb
  exact ⟨_, ⟨⟨a, b⟩, by simp, b0, b1⟩, a2⟩
theorem rd_cast : Rd enc Try.prog 63 3 (fun zs => ∃ c : Ct, zs = cCt c ∧ okCt c) := by
  have h : Rd enc Try.prog 63 3 (Cat [(5, 1, fun zs => ∃ n, zs = [.v (.int .u8 n)] ∧ (Lit.int .u8 n).wf = true), (61, 2, fun zs => ∃ c : Bool × Int, zs = [.v (.bool c.1), .v (.int .u8 c.2)] ∧ 0 ≤ c.2 ∧ c.2 < 256)]) :=
    rd_struct _ Try.underlying63 (by kernel_rfl) rfl (by kernel_rfl) (by
      intro r hr
      simp only [List.mem_cons, List.not_mem_nil, or_false] at hr
      rcases hr with rfl | rfl
      · exact rd_5
      · exact rd_change)
  refine ⟨h.1, fun w spare held fuel cs y hh hl => ?_⟩
  obtain ⟨zs, ⟨_, _, rfl, ⟨a, rfl, ha⟩, _, _, rfl, ⟨b, rfl, hb0, hb1⟩, rfl⟩, a2⟩ := h.2 w spare held fuel cs y hh hl
  obtain ⟨a0, a1⟩ := wf_u8 ha
  exact ⟨_, ⟨⟨a, b.1, b.2⟩, by simp [cCt], a0, a1, hb0, hb1⟩, a2⟩
theorem cast_of_trod (hv : Value.okWide Try.prog w .any base 63 v) (h : DataW.Trod enc Try.prog w 0 spare held 63 v d p) : ∃ c : Ct, VR (old w) w [] (avCt c) v ∧ okCt c := by
  obtain ⟨zs, ⟨m, rfl, hm⟩, h2⟩ := arg_agg rd_cast (.inl ⟨_, Try.underlying63⟩) hv h
  exact ⟨m, h2, hm⟩
theorem rd_casts : Rd enc Try.prog 57 1 (fun zs => ∃ l : List Ct, zs = [.fsl 3 (l.map avCt)] ∧ (∀ y ∈ l, okCt y) ∧ l.length ≤ maxLen) := by
  have h := rd_sliceA (enc := enc) (P := Try.prog) (t := 57) (k := 3) Try.underlying57 (by kernel_rfl) (by decide) rd_cast
  refine ⟨h.1, fun w spare held fuel cs y hh hl => ?_⟩
  obtain ⟨zs, ⟨es, rfl, h1, h2⟩, a2⟩ := h.2 w spare held fuel cs y hh hl
  obtain ⟨l, rfl, hl⟩ := list_of' (av := avCt) (Q := okCt) fun a ha => by
    obtain ⟨zs, rfl, m, rfl, hm⟩ := h1 a ha
    exact ⟨m, rfl, hm⟩
  exact ⟨_, ⟨l, rfl, hl, by simpa using h2⟩, a2⟩
theorem casts_of_trod (hv : Value.okWide Try.prog w .any base 57 v) (h : DataW.Trod enc Try.prog w 0 spare held 57 v d p) :
    ∃ l : List Ct, VR (old w) w [] (.fsl 3 (l.map avCt)) v ∧ (∀ y ∈ l, okCt y) ∧ l.length ≤ maxLen := by
  obtain ⟨a, ⟨l, e, h1, h2⟩, h3⟩ := arg_slice rd_casts ⟨_, Try.underlying57⟩ hv h
  cases e
  exact ⟨l, h3, h1, h2⟩
theorem rd_roll : Rd enc Try.prog 56 2 (fun zs => ∃ r : Int × Nat, zs = [.v (.int .i64 r.1), .v (.int .u16 (r.2 : Nat))] ∧ r.2 < 65536) := by
  have h : Rd enc Try.prog 56 2 (Cat [(3, 1, fun zs => ∃ n, zs = [.v (.int .i64 n)] ∧ (Lit.int .i64 n).wf = true), (23, 1, fun zs => ∃ n, zs = [.v (.int .u16 n)] ∧ (Lit.int .u16 n).wf = true)]) :=
    rd_struct _ Try.underlying56 (by kernel_rfl) rfl (by kernel_rfl) (by
      intro r hr
      simp only [List.mem_cons, List.not_mem_nil, or_false] at hr
      rcases hr with rfl | rfl
      · exact rd_3
      · exact rd_int Try.underlying23 (by kernel_rfl))
  refine ⟨h.1, fun w spare held fuel cs y hh hl => ?_⟩
  obtain ⟨zs, ⟨_, _, rfl, ⟨a, rfl, _⟩, _, _, rfl, ⟨b, rfl, hb⟩, rfl⟩, a2⟩ := h.2 w spare held fuel cs y hh hl
  obtain ⟨b0, b1⟩ := wf_u16 hb
  exact ⟨_, ⟨⟨a, b.toNat⟩, by simp [Int.toNat_of_nonneg b0], by simp only; omega⟩, a2⟩
theorem roll_of_trod (hv : Value.okWide Try.prog w .any base 56 v) (h : DataW.Trod enc Try.prog w 0 spare held 56 v d p) :
    ∃ r : Int × Nat, VR (old w) w [] (.agg [.v (.int .i64 r.1), .v (.int .u16 (r.2 : Nat))]) v ∧ r.2 < 65536 := by
  obtain ⟨zs, ⟨m, rfl, hm⟩, h2⟩ := arg_agg rd_roll (.inl ⟨_, Try.underlying56⟩) hv h
  exact ⟨m, h2, hm⟩
theorem rd_box : Rd enc Try.prog 59 3 (fun zs => ∃ f : Int × Nat × List Ct, zs = [.v (.int .i64 f.1), .v (.int .u16 (f.2.1 : Nat)), .fsl 3 (f.2.2.map avCt)] ∧ f.2.1 < 65536 ∧ ∀ y ∈ f.2.2, okCt y) := by
  have h : Rd enc Try.prog 59 3 (Cat [(56, 2, fun zs => ∃ r : Int × Nat, zs = [.v (.int .i64 r.1), .v (.int .u16 (r.2 : Nat))] ∧ r.2 < 65536), (57, 1, fun zs => ∃ l : List Ct, zs = [.fsl 3 (l.map avCt)] ∧ (∀ y ∈ l, okCt y) ∧ l.length ≤ maxLen)]) :=
    rd_struct _ Try.underlying59 (by kernel_rfl) rfl (by kernel_rfl) (by
      intro r hr
      simp only [List.mem_cons, List.not_mem_nil, or_false] at hr
      rcases hr with rfl | rfl
      · exact rd_roll
      · exact rd_casts)
  refine ⟨h.1, fun w spare held fuel cs y hh hl => ?_⟩
  obtain ⟨zs, ⟨_, _, rfl, ⟨a, rfl, ha⟩, _, _, rfl, ⟨b, rfl, hb, _⟩, rfl⟩, a2⟩ := h.2 w spare held fuel cs y hh hl
  exact ⟨_, ⟨⟨a.1, a.2, b⟩, by simp, ha, hb⟩, a2⟩
theorem box_of_trod (hv : Value.okWide Try.prog w .any base 59 v) (h : DataW.Trod enc Try.prog w 0 spare held 59 v d p) :
    ∃ f : Int × Nat × List Ct, VR (old w) w [] (avBox f.1 f.2.1 f.2.2) v ∧ f.2.1 < 65536 ∧ ∀ y ∈ f.2.2, okCt y := by
  obtain ⟨zs, ⟨f, rfl, hf⟩, h2⟩ := arg_agg rd_box (.inl ⟨_, Try.underlying59⟩) hv h
  exact ⟨f, h2, hf⟩
theorem two_of_trod (hv : Value.okWide Try.prog w .any base 92 v) (h : DataW.Trod enc Try.prog w 0 spare held 92 v d p) :
    ∃ c : (Bool × Int) × (Bool × Int), VR (old w) w [] (.agg [.v (.bool c.1.1), .v (.int .u8 c.1.2), .v (.bool c.2.1), .v (.int .u8 c.2.2)]) v ∧ (0 ≤ c.1.2 ∧ c.1.2 < 256) ∧ (0 ≤ c.2.2 ∧ c.2.2 < 256) := by
  have hr := rd_array (enc := enc) (P := Try.prog) (t := 92) (n := 2) (k := 2) Try.underlying92 (by kernel_rfl) rd_change
  obtain ⟨zs, ⟨a, b, rfl, ⟨x, rfl, hx⟩, c, e, rfl, ⟨y, rfl, hy⟩, rfl⟩, h2⟩ := arg_agg hr (.inr ⟨_, _, Try.underlying92⟩) hv h
  exact ⟨(x, y), by simpa using h2, hx, hy⟩
end
end Go.Proofs.Ytbponegjfccgfaa.Am
