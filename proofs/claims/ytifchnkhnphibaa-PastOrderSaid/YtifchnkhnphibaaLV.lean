/-
  THE ARGUMENTS OF THE LAWS OVER VECTORS AND BODIES, as they are read.
-/
import Derived.Test.YtifchnkhnphibaaP7
import Derived.Test.YtifchnkhnphibaaL0
namespace Go.Proofs.Ytifchnkhnphibaa.Am
set_option linter.unusedSimpArgs false
set_option linter.unusedVariables false
open Go Go.Proofs Go.ChangeShapes Go.WideShapes Go.ChangeAt Go.RowKit

theorem vec_of : ∀ (n : Nat) (zs : List AV), ArrOf (fun zs => ∃ n, zs = [AV.v (.int .u16 n)] ∧ (Lit.int .u16 n).wf = true) n zs → ∃ v : List Nat, zs = vc v ∧ v.length = n ∧ ∀ x ∈ v, x < 65536
  | 0, zs, h => ⟨[], h, rfl, by simp⟩
  | n + 1, zs, ⟨a, b, e, ⟨x, ex, wx⟩, hb⟩ => by
    obtain ⟨v, rfl, hl, hv⟩ := vec_of n b hb
    obtain ⟨x0, x1⟩ := wf_u16 wx
    refine ⟨x.toNat :: v, by rw [e, ex, vc_cons, Int.toNat_of_nonneg x0]; rfl, by simp [hl], fun y hy => ?_⟩
    rcases List.mem_cons.1 hy with rfl | hy
    · omega
    · exact hv y hy

section
variable {H : Type} {enc : TypeId × Value → H} {w : World} {spare : Nat → Bool} {held : Bool} {v : Value} {d : DataW H} {p : List MemPlace} {base : Nat}

theorem rd_vec : Rd enc Try.prog 24 16 (fun zs => ∃ v : List Nat, zs = vc v ∧ okV v) := by
  have h := rd_array (enc := enc) (P := Try.prog) (t := 24) (n := 16) (k := 1) Try.underlying24 (by kernel_rfl) (rd_int Try.underlying22 (by kernel_rfl))
  refine ⟨h.1, fun w spare held fuel cs y hh hl => ?_⟩
  obtain ⟨zs, a1, a2⟩ := h.2 w spare held fuel cs y hh hl
  obtain ⟨v, e, h1, h2⟩ := vec_of 16 zs a1
  exact ⟨zs, ⟨v, e, h1, h2⟩, a2⟩

theorem vec_of_trod (hv : Value.okWide Try.prog w .any base 24 v) (h : DataW.Trod enc Try.prog w 0 spare held 24 v d p) : ∃ x : List Nat, VR (old w) w [] (.agg (vc x)) v ∧ okV x := by
  obtain ⟨zs, ⟨x, rfl, hx⟩, h2⟩ := arg_agg rd_vec (.inr ⟨_, _, Try.underlying24⟩) hv h
  exact ⟨x, h2, hx⟩

theorem rd_name : Rd enc Try.prog 31 3 (Cat [(3, 1, fun zs => ∃ n, zs = [.v (.int .i64 n)] ∧ (Lit.int .i64 n).wf = true), (5, 1, fun zs => ∃ n, zs = [.v (.int .u8 n)] ∧ (Lit.int .u8 n).wf = true), (3, 1, fun zs => ∃ n, zs = [.v (.int .i64 n)] ∧ (Lit.int .i64 n).wf = true)]) :=
  rd_struct _ Try.underlying31 (by kernel_rfl) rfl (by kernel_rfl) (by
    intro r hr
    simp only [List.mem_cons, List.not_mem_nil, or_false] at hr
    rcases hr with rfl | rfl | rfl
    · exact rd_3
    · exact rd_5
    · exact rd_3)
theorem name_of_trod (hv : Value.okWide Try.prog w .any base 31 v) (h : DataW.Trod enc Try.prog w 0 spare held 31 v d p) :
    ∃ x : Int × Int × Int, VR (old w) w [] (.agg [.v (.int .i64 x.1), .v (.int .u8 x.2.1), .v (.int .i64 x.2.2)]) v ∧ 0 ≤ x.2.1 := by
  obtain ⟨zs, ⟨_, _, rfl, ⟨a, rfl, _⟩, _, _, rfl, ⟨b, rfl, hb⟩, _, _, rfl, ⟨c, rfl, _⟩, rfl⟩, h2⟩ := arg_agg rd_name (.inl ⟨_, Try.underlying31⟩) hv h
  exact ⟨⟨a, b, c⟩, h2, (wf_u8 hb).1⟩

theorem rd_body : Rd enc Try.prog 29 18 (Cat [(3, 1, fun zs => ∃ n, zs = [.v (.int .i64 n)] ∧ (Lit.int .i64 n).wf = true), (24, 16, fun zs => ∃ v : List Nat, zs = vc v ∧ okV v), (9, 1, fun zs => ∃ s, zs = [.v (.string s)])]) :=
  rd_struct _ Try.underlying29 (by kernel_rfl) rfl (by kernel_rfl) (by
    intro r hr
    simp only [List.mem_cons, List.not_mem_nil, or_false] at hr
    rcases hr with rfl | rfl | rfl
    · exact rd_3
    · exact rd_vec
    · exact rd_9)
theorem body_of_trod (hv : Value.okWide Try.prog w .any base 29 v) (h : DataW.Trod enc Try.prog w 0 spare held 29 v d p) :
    ∃ b : Bdy, VR (old w) w [] (.agg (bc b.kind b.past b.text)) v ∧ okV b.past := by
  obtain ⟨zs, ⟨_, _, rfl, ⟨a, rfl, _⟩, _, _, rfl, ⟨b, rfl, hb⟩, _, _, rfl, ⟨c, rfl⟩, rfl⟩, h2⟩ := arg_agg rd_body (.inl ⟨_, Try.underlying29⟩) hv h
  exact ⟨⟨a, b, c⟩, by simpa [bc] using h2, hb⟩
end
end Go.Proofs.Ytifchnkhnphibaa.Am
