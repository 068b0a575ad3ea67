/-
  THE ARGUMENTS OF THE LAWS OVER TABLES, as they are read.
-/
import Derived.Test.YtkbgndebfcjojaaZT14
import Derived.Test.YtkbgndebfcjojaaZL0
set_option maxRecDepth 100000
namespace Go.Proofs.Ytkbgndebfcjojaa.Am
set_option linter.unusedSimpArgs false
set_option linter.unusedVariables false
open Go Go.Proofs Go.ChangeShapes Go.WideShapes Go.ChangeAt Go.RowKit

theorem i64_wf {x : Int} (h : (Lit.int .i64 x).wf = true) : i64r x := by
  simp [Lit.wf, IntKind.min, IntKind.max, IntKind.signed, IntKind.bits] at h
  exact ⟨by omega, by omega⟩
theorem vec_of : ∀ (n : Nat) (zs : List AV), ArrOf (fun zs => ∃ n, zs = [AV.v (.int .u16 n)] ∧ (Lit.int .u16 n).wf = true) n zs → ∃ v : List Nat, zs = vc v ∧ v.length = n ∧ ∀ x ∈ v, x < 65536
  | 0, zs, h => ⟨[], h, rfl, by simp⟩
  | n + 1, zs, ⟨a, b, e, ⟨x, ex, wx⟩, hb⟩ => by
    obtain ⟨v, rfl, hl, hv⟩ := vec_of n b hb
    obtain ⟨x0, x1⟩ := wf_u16 wx
    refine ⟨x.toNat :: v, by rw [e, ex, vc_cons, Int.toNat_of_nonneg x0]; rfl, by simp [hl], fun y hy => ?_⟩
    rcases List.mem_cons.1 hy with rfl | hy
    · omega
    · exact hv y hy
def rdBs (l : List Ba) : Prop := ∀ x ∈ l, x.2 < 65536
def rdOp (o : Op) : Prop := o.f < 256 ∧ i64r o.q ∧ rdBs o.c.es ∧ rdBs o.c.rs

section
variable {H : Type} {enc : TypeId × Value → H} {w : World} {spare : Nat → Bool} {held : Bool} {v : Value} {d : DataW H} {p : List MemPlace} {base : Nat}

theorem rd_vec : Rd enc Try.prog 25 16 (fun zs => ∃ v : List Nat, zs = vc v ∧ okV v) := by
  have h := rd_array (enc := enc) (P := Try.prog) (t := 25) (n := 16) (k := 1) Try.underlying25 (by kernel_rfl) (rd_int Try.underlying22 (by kernel_rfl))
  refine ⟨h.1, fun w spare held fuel cs y hh hl => ?_⟩
  obtain ⟨zs, a1, a2⟩ := h.2 w spare held fuel cs y hh hl
  obtain ⟨v, e, h1, h2⟩ := vec_of 16 zs a1
  exact ⟨zs, ⟨v, e, h1, h2⟩, a2⟩
theorem rd_set : Rd enc Try.prog 23 1 (fun zs => ∃ n, zs = [.v (.int .u16 n)] ∧ (Lit.int .u16 n).wf = true) := rd_int Try.underlying23 (by kernel_rfl)
theorem rd_boo : Rd enc Try.prog 4 1 (fun zs => ∃ b, zs = [.v (.bool b)]) := rd_bool Try.underlying4 (by kernel_rfl)
theorem rd_ballot : Rd enc Try.prog 116 2 (fun zs => ∃ x : Ba, zs = [.v (.string x.1), .v (.int .u16 (x.2 : Nat))] ∧ x.2 < 65536) := by
  have h : Rd enc Try.prog 116 2 (Cat [(9, 1, fun zs => ∃ s, zs = [.v (.string s)]), (23, 1, fun zs => ∃ n, zs = [.v (.int .u16 n)] ∧ (Lit.int .u16 n).wf = true)]) :=
    rd_struct _ Try.underlying116 (by kernel_rfl) rfl (by kernel_rfl) (by
      intro r hr
      simp only [List.mem_cons, List.not_mem_nil, or_false] at hr
      rcases hr with rfl | rfl
      · exact rd_9
      · exact rd_set)
  refine ⟨h.1, fun w spare held fuel cs y hh hl => ?_⟩
  obtain ⟨zs, ⟨_, _, rfl, ⟨a, rfl⟩, _, _, rfl, ⟨b, rfl, hb⟩, rfl⟩, a2⟩ := h.2 w spare held fuel cs y hh hl
  obtain ⟨b0, b1⟩ := wf_u16 hb
  exact ⟨_, ⟨⟨a, b.toNat⟩, by simp [Int.toNat_of_nonneg b0], by simp only; omega⟩, a2⟩
theorem rd_ballots : Rd enc Try.prog 62 1 (fun zs => ∃ l : List Ba, zs = [.fsl 2 (l.map avBa)] ∧ rdBs l) := by
  have h := rd_sliceA (enc := enc) (P := Try.prog) (t := 62) (k := 2) Try.underlying62 (by kernel_rfl) (by decide) rd_ballot
  refine ⟨h.1, fun w spare held fuel cs y hh hl => ?_⟩
  obtain ⟨zs, ⟨es, rfl, h1, h2⟩, a2⟩ := h.2 w spare held fuel cs y hh hl
  obtain ⟨l, rfl, hl⟩ := list_of' (av := avBa) (Q := fun x => x.2 < 65536) fun a ha => by
    obtain ⟨zs, rfl, m, rfl, hm⟩ := h1 a ha
    exact ⟨m, rfl, hm⟩
  exact ⟨_, ⟨l, rfl, hl⟩, a2⟩
theorem rd_case : Rd enc Try.prog 64 5 (fun zs => ∃ c : Cs, zs = cCs c ∧ rdBs c.es ∧ rdBs c.rs) := by
  have h : Rd enc Try.prog 64 5 (Cat [(4, 1, fun zs => ∃ b, zs = [.v (.bool b)]), (4, 1, fun zs => ∃ b, zs = [.v (.bool b)]), (4, 1, fun zs => ∃ b, zs = [.v (.bool b)]),
      (62, 1, fun zs => ∃ l : List Ba, zs = [.fsl 2 (l.map avBa)] ∧ rdBs l), (62, 1, fun zs => ∃ l : List Ba, zs = [.fsl 2 (l.map avBa)] ∧ rdBs l)]) :=
    rd_struct _ Try.underlying64 (by kernel_rfl) rfl (by kernel_rfl) (by
      intro r hr
      simp only [List.mem_cons, List.not_mem_nil, or_false] at hr
      rcases hr with rfl | rfl | rfl | rfl | rfl
      · exact rd_boo
      · exact rd_boo
      · exact rd_boo
      · exact rd_ballots
      · exact rd_ballots)
  refine ⟨h.1, fun w spare held fuel cs y hh hl => ?_⟩
  obtain ⟨zs, ⟨_, _, rfl, ⟨e, rfl⟩, _, _, rfl, ⟨r, rfl⟩, _, _, rfl, ⟨d, rfl⟩, _, _, rfl, ⟨es, rfl, h1⟩, _, _, rfl, ⟨rs, rfl, h2⟩, rfl⟩, a2⟩ := h.2 w spare held fuel cs y hh hl
  exact ⟨_, ⟨⟨e, r, d, es, rs⟩, by simp [cCs], h1, h2⟩, a2⟩
theorem rd_open : Rd enc Try.prog 66 7 (fun zs => ∃ o : Op, zs = cOp o ∧ rdOp o) := by
  have h : Rd enc Try.prog 66 7 (Cat [(5, 1, fun zs => ∃ n, zs = [.v (.int .u8 n)] ∧ (Lit.int .u8 n).wf = true), (3, 1, fun zs => ∃ n, zs = [.v (.int .i64 n)] ∧ (Lit.int .i64 n).wf = true),
      (64, 5, fun zs => ∃ c : Cs, zs = cCs c ∧ rdBs c.es ∧ rdBs c.rs)]) :=
    rd_struct _ Try.underlying66 (by kernel_rfl) rfl (by kernel_rfl) (by
      intro r hr
      simp only [List.mem_cons, List.not_mem_nil, or_false] at hr
      rcases hr with rfl | rfl | rfl
      · exact rd_5
      · exact rd_3
      · exact rd_case)
  refine ⟨h.1, fun w spare held fuel cs y hh hl => ?_⟩
  obtain ⟨zs, ⟨_, _, rfl, ⟨f, rfl, hf⟩, _, _, rfl, ⟨q, rfl, hq⟩, _, _, rfl, ⟨c, rfl, h1, h2⟩, rfl⟩, a2⟩ := h.2 w spare held fuel cs y hh hl
  obtain ⟨f0, f1⟩ := wf_u8 hf
  exact ⟨_, ⟨⟨f.toNat, q, c⟩, by simp [cOp, cCs, Int.toNat_of_nonneg f0], by simp only; omega, i64_wf hq, h1, h2⟩, a2⟩
theorem rd_opens : Rd enc Try.prog 26 1 (fun zs => ∃ l : List Op, zs = [.fsl 7 (l.map avOp)] ∧ (∀ o ∈ l, rdOp o) ∧ l.length ≤ maxLen) := by
  have h := rd_sliceA (enc := enc) (P := Try.prog) (t := 26) (k := 7) Try.underlying26 (by kernel_rfl) (by decide) rd_open
  refine ⟨h.1, fun w spare held fuel cs y hh hl => ?_⟩
  obtain ⟨zs, ⟨es, rfl, h1, h2⟩, a2⟩ := h.2 w spare held fuel cs y hh hl
  obtain ⟨l, rfl, hl⟩ := list_of' (av := avOp) (Q := rdOp) fun a ha => by
    obtain ⟨zs, rfl, m, rfl, hm⟩ := h1 a ha
    exact ⟨m, rfl, hm⟩
  exact ⟨_, ⟨l, rfl, hl, by simpa using h2⟩, a2⟩
theorem rd_table : Rd enc Try.prog 28 19 (fun zs => ∃ t : Tb, zs = tc t.v (t.m : Nat) t.b (.fsl 7 (t.os.map avOp)) ∧ rdTb t) := by
  have h : Rd enc Try.prog 28 19 (Cat [(3, 1, fun zs => ∃ n, zs = [.v (.int .i64 n)] ∧ (Lit.int .i64 n).wf = true), (23, 1, fun zs => ∃ n, zs = [.v (.int .u16 n)] ∧ (Lit.int .u16 n).wf = true),
      (25, 16, fun zs => ∃ v : List Nat, zs = vc v ∧ okV v), (26, 1, fun zs => ∃ l : List Op, zs = [.fsl 7 (l.map avOp)] ∧ (∀ o ∈ l, rdOp o) ∧ l.length ≤ maxLen)]) :=
    rd_struct _ Try.underlying28 (by kernel_rfl) rfl (by kernel_rfl) (by
      intro r hr
      simp only [List.mem_cons, List.not_mem_nil, or_false] at hr
      rcases hr with rfl | rfl | rfl | rfl
      · exact rd_3
      · exact rd_set
      · exact rd_vec
      · exact rd_opens)
  refine ⟨h.1, fun w spare held fuel cs y hh hl => ?_⟩
  obtain ⟨zs, ⟨_, _, rfl, ⟨a, rfl, ha⟩, _, _, rfl, ⟨m, rfl, hm⟩, _, _, rfl, ⟨b, rfl, hb⟩, _, _, rfl, ⟨l, rfl, h1, h2⟩, rfl⟩, a2⟩ := h.2 w spare held fuel cs y hh hl
  obtain ⟨m0, m1⟩ := wf_u16 hm
  exact ⟨_, ⟨⟨a, m.toNat, b, l⟩, by simp [tc, Int.toNat_of_nonneg m0], by simp only; omega, hb, Nat.le_trans h2 (by simp [maxLen]), fun o ho => h1 o ho⟩, a2⟩
theorem table_of_trod (hv : Value.okWide Try.prog w .any base 28 v) (h : DataW.Trod enc Try.prog w 0 spare held 28 v d p) : ∃ t : Tb, VR (old w) w [] (avTb t) v ∧ rdTb t := by
  obtain ⟨zs, ⟨t, rfl, ht⟩, h2⟩ := arg_agg rd_table (.inl ⟨_, Try.underlying28⟩) hv h
  exact ⟨t, h2, ht⟩
theorem rd_name : Rd enc Try.prog 30 3 (fun zs => ∃ n : Nm, zs = [.v (.int .i64 n.v), .v (.int .u8 (n.f : Nat)), .v (.int .i64 n.q)] ∧ n.f < 256 ∧ i64r n.q) := by
  have h : Rd enc Try.prog 30 3 (Cat [(3, 1, fun zs => ∃ n, zs = [.v (.int .i64 n)] ∧ (Lit.int .i64 n).wf = true), (5, 1, fun zs => ∃ n, zs = [.v (.int .u8 n)] ∧ (Lit.int .u8 n).wf = true), (3, 1, fun zs => ∃ n, zs = [.v (.int .i64 n)] ∧ (Lit.int .i64 n).wf = true)]) :=
    rd_struct _ Try.underlying30 (by kernel_rfl) rfl (by kernel_rfl) (by
      intro r hr
      simp only [List.mem_cons, List.not_mem_nil, or_false] at hr
      rcases hr with rfl | rfl | rfl
      · exact rd_3
      · exact rd_5
      · exact rd_3)
  refine ⟨h.1, fun w spare held fuel cs y hh hl => ?_⟩
  obtain ⟨zs, ⟨_, _, rfl, ⟨a, rfl, _⟩, _, _, rfl, ⟨f, rfl, hf⟩, _, _, rfl, ⟨q, rfl, hq⟩, rfl⟩, a2⟩ := h.2 w spare held fuel cs y hh hl
  obtain ⟨f0, f1⟩ := wf_u8 hf
  exact ⟨_, ⟨⟨a, f.toNat, q⟩, by simp [Int.toNat_of_nonneg f0], by simp only; omega, i64_wf hq⟩, a2⟩
theorem name_of_trod (hv : Value.okWide Try.prog w .any base 30 v) (h : DataW.Trod enc Try.prog w 0 spare held 30 v d p) : ∃ n : Nm, VR (old w) w [] (avNm n) v ∧ n.f < 256 ∧ i64r n.q := by
  obtain ⟨zs, ⟨t, rfl, ht⟩, h2⟩ := arg_agg rd_name (.inl ⟨_, Try.underlying30⟩) hv h
  exact ⟨t, h2, ht⟩
theorem rd_act : Rd enc Try.prog 32 6 (fun zs => ∃ a : Ac, .agg zs = avAc a ∧ okAc a) := by
  have h : Rd enc Try.prog 32 6 (Cat [(30, 3, fun zs => ∃ n : Nm, zs = [.v (.int .i64 n.v), .v (.int .u8 (n.f : Nat)), .v (.int .i64 n.q)] ∧ n.f < 256 ∧ i64r n.q), (3, 1, fun zs => ∃ n, zs = [.v (.int .i64 n)] ∧ (Lit.int .i64 n).wf = true),
      (5, 1, fun zs => ∃ n, zs = [.v (.int .u8 n)] ∧ (Lit.int .u8 n).wf = true), (9, 1, fun zs => ∃ s, zs = [.v (.string s)])]) :=
    rd_struct _ Try.underlying32 (by kernel_rfl) rfl (by kernel_rfl) (by
      intro r hr
      simp only [List.mem_cons, List.not_mem_nil, or_false] at hr
      rcases hr with rfl | rfl | rfl | rfl
      · exact rd_name
      · exact rd_3
      · exact rd_5
      · exact rd_9)
  refine ⟨h.1, fun w spare held fuel cs y hh hl => ?_⟩
  obtain ⟨zs, ⟨_, _, rfl, ⟨n, rfl, hn, hq⟩, _, _, rfl, ⟨k, rfl, _⟩, _, _, rfl, ⟨u, rfl, hu⟩, _, _, rfl, ⟨s, rfl⟩, rfl⟩, a2⟩ := h.2 w spare held fuel cs y hh hl
  obtain ⟨u0, u1⟩ := wf_u8 hu
  exact ⟨_, ⟨⟨n, k, u.toNat, s⟩, by simp [avAc, Int.toNat_of_nonneg u0], hn, hq, by simp only; omega⟩, a2⟩
theorem act_of_trod (hv : Value.okWide Try.prog w .any base 32 v) (h : DataW.Trod enc Try.prog w 0 spare held 32 v d p) : ∃ a : Ac, VR (old w) w [] (avAc a) v ∧ okAc a := by
  obtain ⟨zs, ⟨t, e, ht⟩, h2⟩ := arg_agg rd_act (.inl ⟨_, Try.underlying32⟩) hv h
  exact ⟨t, e ▸ h2, ht⟩
theorem rd_acts : Rd enc Try.prog 52 1 (fun zs => ∃ l : List Ac, zs = [.fsl 6 (l.map avAc)] ∧ (∀ a ∈ l, okAc a) ∧ l.length ≤ maxLen) := by
  have h := rd_sliceA (enc := enc) (P := Try.prog) (t := 52) (k := 6) Try.underlying52 (by kernel_rfl) (by decide) rd_act
  refine ⟨h.1, fun w spare held fuel cs y hh hl => ?_⟩
  obtain ⟨zs, ⟨es, rfl, h1, h2⟩, a2⟩ := h.2 w spare held fuel cs y hh hl
  obtain ⟨l, rfl, hl⟩ := list_of' (av := avAc) (Q := okAc) fun a ha => by
    obtain ⟨zs, rfl, m, e, hm⟩ := h1 a ha
    exact ⟨m, e, hm⟩
  exact ⟨_, ⟨l, rfl, hl, by simpa using h2⟩, a2⟩
theorem acts_of_trod (hv : Value.okWide Try.prog w .any base 52 v) (h : DataW.Trod enc Try.prog w 0 spare held 52 v d p) :
    ∃ l : List Ac, VR (old w) w [] (.fsl 6 (l.map avAc)) v ∧ (∀ a ∈ l, okAc a) ∧ l.length ≤ maxLen := by
  obtain ⟨a, ⟨l, e, h1, h2⟩, h3⟩ := arg_slice rd_acts ⟨_, Try.underlying52⟩ hv h
  cases e
  exact ⟨l, h3, h1, h2⟩
theorem set_of_trod (hv : Value.okWide Try.prog w .any base 23 v) (h : DataW.Trod enc Try.prog w 0 spare held 23 v d p) : ∃ m : Nat, VR (old w) w [] (.v (.int .u16 (m : Nat))) v ∧ m < 65536 := by
  obtain ⟨a, rfl, rfl, rfl, hw⟩ := open_int Try.underlying23 hv h
  obtain ⟨b0, b1⟩ := wf_u16 hw
  exact ⟨a.toNat, by rw [Int.toNat_of_nonneg b0]; exact .v _, by omega⟩
end

section
variable {A B C : Type} {a : A → AV} {b : B → AV} {c : C → AV}
theorem sp2_at {p : A → B → Prop} {g : A → B → AV} (ia : ∀ x y, a x = a y → x = y) (ib : ∀ x y, b x = b y → x = y) (x : A) (y : B) (h : p x y) : sp2 a b p g [a x, b y] [] = some (.ret (g x y), []) := by
  simp [sp2, un_av ia, un_av ib, h]
theorem sp3_at {p : A → B → C → Prop} {g : A → B → C → AV} (ia : ∀ x y, a x = a y → x = y) (ib : ∀ x y, b x = b y → x = y) (ic : ∀ x y, c x = c y → x = y) (x : A) (y : B) (z : C) (h : p x y z) : sp3 a b c p g [a x, b y, c z] [] = some (.ret (g x y z), []) := by
  simp [sp3, un_av ia, un_av ib, un_av ic, h]
theorem inj_avI (k : IntKind) : ∀ x y : Int, avI k x = avI k y → x = y := fun x y h => by simpa [avI] using h
theorem inj_avAcs : ∀ x y : List Ac, avAcs x = avAcs y → x = y := fun x y h => by simp only [avAcs, AV.fsl.injEq, true_and] at h; exact map_avAc h
end
end Go.Proofs.Ytkbgndebfcjojaa.Am
