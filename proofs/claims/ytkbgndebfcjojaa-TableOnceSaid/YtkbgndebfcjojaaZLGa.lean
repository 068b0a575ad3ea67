/-
  THE ARGUMENTS OF THE LAWS OVER VOTES, as they are read.
-/
import Derived.Test.YtkbgndebfcjojaaZT14
import Derived.Test.YtkbgndebfcjojaaZL0
set_option maxRecDepth 100000
namespace Go.Proofs.Ytkbgndebfcjojaa.Am
set_option linter.unusedSimpArgs false
set_option linter.unusedVariables false
open Go Go.Proofs Go.ChangeShapes Go.WideShapes Go.ChangeAt Go.RowKit

theorem i64_wf {x : Int} (h : (Lit.int .i64 x).wf = true) : i64r x := by
  simp [Lit.wf, IntKind.min, IntKind.max, IntKind.signed, IntKind.bits] at h
  exact ⟨by omega, by omega⟩
section
variable {H : Type} {enc : TypeId × Value → H} {w : World} {spare : Nat → Bool} {held : Bool} {v : Value} {d : DataW H} {p : List MemPlace} {base : Nat}

theorem rd_set : Rd enc Try.prog 23 1 (fun zs => ∃ n, zs = [.v (.int .u16 n)] ∧ (Lit.int .u16 n).wf = true) := rd_int Try.underlying23 (by kernel_rfl)
theorem rd_name : Rd enc Try.prog 30 3 (fun zs => ∃ n : Nm, zs = [.v (.int .i64 n.v), .v (.int .u8 (n.f : Nat)), .v (.int .i64 n.q)] ∧ n.f < 256 ∧ i64r n.q) := by
  have h : Rd enc Try.prog 30 3 (Cat [(3, 1, fun zs => ∃ n, zs = [.v (.int .i64 n)] ∧ (Lit.int .i64 n).wf = true), (5, 1, fun zs => ∃ n, zs = [.v (.int .u8 n)] ∧ (Lit.int .u8 n).wf = true), (3, 1, fun zs => ∃ n, zs = [.v (.int .i64 n)] ∧ (Lit.int .i64 n).wf = true)]) :=
    rd_struct _ Try.underlying30 (by kernel_rfl) rfl (by kernel_rfl) (by
      intro r hr
      simp only [List.mem_cons, List.not_mem_nil, or_false] at hr
      rcases hr with rfl | rfl | rfl
      · exact rd_3
      · exact rd_5
      · exact rd_3)
  refine ⟨h.1, fun w spare held fuel cs y hh hl => ?_⟩
  obtain ⟨zs, ⟨_, _, rfl, ⟨a, rfl, _⟩, _, _, rfl, ⟨f, rfl, hf⟩, _, _, rfl, ⟨q, rfl, hq⟩, rfl⟩, a2⟩ := h.2 w spare held fuel cs y hh hl
  obtain ⟨f0, f1⟩ := wf_u8 hf
  exact ⟨_, ⟨⟨a, f.toNat, q⟩, by simp [Int.toNat_of_nonneg f0], by simp only; omega, i64_wf hq⟩, a2⟩
theorem name_of_trod (hv : Value.okWide Try.prog w .any base 30 v) (h : DataW.Trod enc Try.prog w 0 spare held 30 v d p) : ∃ n : Nm, VR (old w) w [] (avNm n) v ∧ n.f < 256 ∧ i64r n.q := by
  obtain ⟨zs, ⟨t, rfl, ht⟩, h2⟩ := arg_agg rd_name (.inl ⟨_, Try.underlying30⟩) hv h
  exact ⟨t, h2, ht⟩
theorem rd_act : Rd enc Try.prog 32 6 (fun zs => ∃ a : Ac, .agg zs = avAc a ∧ okAc a) := by
  have h : Rd enc Try.prog 32 6 (Cat [(30, 3, fun zs => ∃ n : Nm, zs = [.v (.int .i64 n.v), .v (.int .u8 (n.f : Nat)), .v (.int .i64 n.q)] ∧ n.f < 256 ∧ i64r n.q), (3, 1, fun zs => ∃ n, zs = [.v (.int .i64 n)] ∧ (Lit.int .i64 n).wf = true),
      (5, 1, fun zs => ∃ n, zs = [.v (.int .u8 n)] ∧ (Lit.int .u8 n).wf = true), (9, 1, fun zs => ∃ s, zs = [.v (.string s)])]) :=
    rd_struct _ Try.underlying32 (by kernel_rfl) rfl (by kernel_rfl) (by
      intro r hr
      simp only [List.mem_cons, List.not_mem_nil, or_false] at hr
      rcases hr with rfl | rfl | rfl | rfl
      · exact rd_name
      · exact rd_3
      · exact rd_5
      · exact rd_9)
  refine ⟨h.1, fun w spare held fuel cs y hh hl => ?_⟩
  obtain ⟨zs, ⟨_, _, rfl, ⟨n, rfl, hn, hq⟩, _, _, rfl, ⟨k, rfl, _⟩, _, _, rfl, ⟨u, rfl, hu⟩, _, _, rfl, ⟨s, rfl⟩, rfl⟩, a2⟩ := h.2 w spare held fuel cs y hh hl
  obtain ⟨u0, u1⟩ := wf_u8 hu
  exact ⟨_, ⟨⟨n, k, u.toNat, s⟩, by simp [avAc, Int.toNat_of_nonneg u0], hn, hq, by simp only; omega⟩, a2⟩
theorem act_of_trod (hv : Value.okWide Try.prog w .any base 32 v) (h : DataW.Trod enc Try.prog w 0 spare held 32 v d p) : ∃ a : Ac, VR (old w) w [] (avAc a) v ∧ okAc a := by
  obtain ⟨zs, ⟨t, e, ht⟩, h2⟩ := arg_agg rd_act (.inl ⟨_, Try.underlying32⟩) hv h
  exact ⟨t, e ▸ h2, ht⟩
theorem rd_acts : Rd enc Try.prog 52 1 (fun zs => ∃ l : List Ac, zs = [.fsl 6 (l.map avAc)] ∧ (∀ a ∈ l, okAc a) ∧ l.length ≤ maxLen) := by
  have h := rd_sliceA (enc := enc) (P := Try.prog) (t := 52) (k := 6) Try.underlying52 (by kernel_rfl) (by decide) rd_act
  refine ⟨h.1, fun w spare held fuel cs y hh hl => ?_⟩
  obtain ⟨zs, ⟨es, rfl, h1, h2⟩, a2⟩ := h.2 w spare held fuel cs y hh hl
  obtain ⟨l, rfl, hl⟩ := list_of' (av := avAc) (Q := okAc) fun a ha => by
    obtain ⟨zs, rfl, m, e, hm⟩ := h1 a ha
    exact ⟨m, e, hm⟩
  exact ⟨_, ⟨l, rfl, hl, by simpa using h2⟩, a2⟩
theorem acts_of_trod (hv : Value.okWide Try.prog w .any base 52 v) (h : DataW.Trod enc Try.prog w 0 spare held 52 v d p) :
    ∃ l : List Ac, VR (old w) w [] (.fsl 6 (l.map avAc)) v ∧ (∀ a ∈ l, okAc a) ∧ l.length ≤ maxLen := by
  obtain ⟨a, ⟨l, e, h1, h2⟩, h3⟩ := arg_slice rd_acts ⟨_, Try.underlying52⟩ hv h
  cases e
  exact ⟨l, h3, h1, h2⟩
theorem set_of_trod (hv : Value.okWide Try.prog w .any base 23 v) (h : DataW.Trod enc Try.prog w 0 spare held 23 v d p) : ∃ m : Nat, VR (old w) w [] (.v (.int .u16 (m : Nat))) v ∧ m < 65536 := by
  obtain ⟨a, rfl, rfl, rfl, hw⟩ := open_int Try.underlying23 hv h
  obtain ⟨b0, b1⟩ := wf_u16 hw
  exact ⟨a.toNat, by rw [Int.toNat_of_nonneg b0]; exact .v _, by omega⟩
end

section
variable {A B C : Type} {a : A → AV} {b : B → AV} {c : C → AV}
theorem sp2_at {p : A → B → Prop} {g : A → B → AV} (ia : ∀ x y, a x = a y → x = y) (ib : ∀ x y, b x = b y → x = y) (x : A) (y : B) (h : p x y) : sp2 a b p g [a x, b y] [] = some (.ret (g x y), []) := by
  simp [sp2, un_av ia, un_av ib, h]
theorem sp3_at {p : A → B → C → Prop} {g : A → B → C → AV} (ia : ∀ x y, a x = a y → x = y) (ib : ∀ x y, b x = b y → x = y) (ic : ∀ x y, c x = c y → x = y) (x : A) (y : B) (z : C) (h : p x y z) : sp3 a b c p g [a x, b y, c z] [] = some (.ret (g x y z), []) := by
  simp [sp3, un_av ia, un_av ib, un_av ic, h]
theorem inj_avI (k : IntKind) : ∀ x y : Int, avI k x = avI k y → x = y := fun x y h => by simpa [avI] using h
theorem inj_avAcs : ∀ x y : List Ac, avAcs x = avAcs y → x = y := fun x y h => by simp only [avAcs, AV.fsl.injEq, true_and] at h; exact map_avAc h
end
end Go.Proofs.Ytkbgndebfcjojaa.Am
