/-
  THE ARGUMENTS OF THE LAWS OVER VIEWS, as they are read.
-/
import Derived.Test.YtjmgnodeohmboaaDoorL0
import Derived.Test.YtjmgnodeohmboaaDoorE0
import Derived.Lib.LaidTab
import Derived.Lib.ItoaNum
import Derived.Stop.LaidErr
import Derived.SizedLaws
set_option maxRecDepth 100000
namespace Go.Proofs.YtjmgnodeohmboaaDoor.Am
set_option linter.unusedSimpArgs false
set_option linter.unusedVariables false
open Go Go.Proofs Go.ChangeShapes Go.WideShapes Go.ChangeAt Go.RowKit

section
variable {H : Type} {enc : TypeId × Value → H} {w : World} {spare : Nat → Bool} {held : Bool} {v : Value} {d : DataW H} {p : List MemPlace} {base : Nat}

theorem rd_change : Rd enc Tryd.prog 27 2 (fun zs => ∃ c : Bool × Int, zs = [.v (.bool c.1), .v (.int .u8 c.2)] ∧ 0 ≤ c.2 ∧ c.2 < 256) := by
  have h : Rd enc Tryd.prog 27 2 (Cat [(4, 1, fun zs => ∃ b, zs = [.v (.bool b)]), (5, 1, fun zs => ∃ n, zs = [.v (.int .u8 n)] ∧ (Lit.int .u8 n).wf = true)]) :=
    rd_struct _ Tryd.underlying27 (by kernel_rfl) rfl (by kernel_rfl) (by
      intro r hr
      simp only [List.mem_cons, List.not_mem_nil, or_false] at hr
      rcases hr with rfl | rfl
      · exact rd_bool Tryd.underlying4 (by kernel_rfl)
      · exact rd_5)
  refine ⟨h.1, fun w spare held fuel cs y hh hl => ?_⟩
  obtain ⟨zs, ⟨_, _, rfl, ⟨a, rfl⟩, _, _, rfl, ⟨b, rfl, hb⟩, rfl⟩, a2⟩ := h.2 w spare held fuel cs y hh hl
  obtain ⟨b0, b1⟩ := wf_u8 hb
  exact ⟨_, ⟨⟨a, b⟩, by simp, b0, b1⟩, a2⟩
theorem change_of_trod (hv : Value.okWide Tryd.prog w .any base 27 v) (h : DataW.Trod enc Tryd.prog w 0 spare held 27 v d p) :
    ∃ c : Bool × Int, VR (old w) w [] (.agg [.v (.bool c.1), .v (.int .u8 c.2)]) v ∧ 0 ≤ c.2 ∧ c.2 < 256 := by
  obtain ⟨zs, ⟨m, rfl, hm⟩, h2⟩ := arg_agg rd_change (.inl ⟨_, Tryd.underlying27⟩) hv h
  exact ⟨m, h2, hm⟩
theorem rd_roll : Rd enc Tryd.prog 25 2 (fun zs => ∃ r : Int × Nat, zs = [.v (.int .i64 r.1), .v (.int .u16 (r.2 : Nat))] ∧ r.2 < 65536) := by
  have h : Rd enc Tryd.prog 25 2 (Cat [(3, 1, fun zs => ∃ n, zs = [.v (.int .i64 n)] ∧ (Lit.int .i64 n).wf = true), (23, 1, fun zs => ∃ n, zs = [.v (.int .u16 n)] ∧ (Lit.int .u16 n).wf = true)]) :=
    rd_struct _ Tryd.underlying25 (by kernel_rfl) rfl (by kernel_rfl) (by
      intro r hr
      simp only [List.mem_cons, List.not_mem_nil, or_false] at hr
      rcases hr with rfl | rfl
      · exact rd_3
      · exact rd_int Tryd.underlying23 (by kernel_rfl))
  refine ⟨h.1, fun w spare held fuel cs y hh hl => ?_⟩
  obtain ⟨zs, ⟨_, _, rfl, ⟨a, rfl, _⟩, _, _, rfl, ⟨b, rfl, hb⟩, rfl⟩, a2⟩ := h.2 w spare held fuel cs y hh hl
  obtain ⟨b0, b1⟩ := wf_u16 hb
  exact ⟨_, ⟨⟨a, b.toNat⟩, by simp [Int.toNat_of_nonneg b0], by simp only; omega⟩, a2⟩
theorem roll_of_trod (hv : Value.okWide Tryd.prog w .any base 25 v) (h : DataW.Trod enc Tryd.prog w 0 spare held 25 v d p) :
    ∃ r : Int × Nat, VR (old w) w [] (.agg [.v (.int .i64 r.1), .v (.int .u16 (r.2 : Nat))]) v ∧ r.2 < 65536 := by
  obtain ⟨zs, ⟨m, rfl, hm⟩, h2⟩ := arg_agg rd_roll (.inl ⟨_, Tryd.underlying25⟩) hv h
  exact ⟨m, h2, hm⟩
theorem rd_changes : Rd enc Tryd.prog 47 1 (fun zs => ∃ l : List (Bool × Int), zs = [.fsl 2 (l.map avCh)] ∧ (∀ y ∈ l, okCh y) ∧ l.length ≤ maxLen) := by
  have h := rd_sliceA (enc := enc) (P := Tryd.prog) (t := 47) (k := 2) Tryd.underlying47 (by kernel_rfl) (by decide) rd_change
  refine ⟨h.1, fun w spare held fuel cs y hh hl => ?_⟩
  obtain ⟨zs, ⟨es, rfl, h1, h2⟩, a2⟩ := h.2 w spare held fuel cs y hh hl
  obtain ⟨l, rfl, hl⟩ := list_of' (av := avCh) (Q := okCh) fun a ha => by
    obtain ⟨zs, rfl, m, rfl, hm⟩ := h1 a ha
    exact ⟨m, rfl, hm⟩
  exact ⟨_, ⟨l, rfl, hl, by simpa using h2⟩, a2⟩
theorem changes_of_trod (hv : Value.okWide Tryd.prog w .any base 47 v) (h : DataW.Trod enc Tryd.prog w 0 spare held 47 v d p) :
    ∃ l : List (Bool × Int), VR (old w) w [] (.fsl 2 (l.map avCh)) v ∧ (∀ y ∈ l, okCh y) ∧ l.length ≤ maxLen := by
  obtain ⟨a, ⟨l, e, h1, h2⟩, h3⟩ := arg_slice rd_changes ⟨_, Tryd.underlying47⟩ hv h
  cases e
  exact ⟨l, h3, h1, h2⟩
end

/-! ### The package-level variables -/
abbrev laidL : List (String × DataW Unit) := Rows.rollAppliesRow.laid
theorem var_heap {P : Program} {W : World} {n : String} {g : Nat} {cs : Array Value} (hg : P.globalNamed n = some g) (h : W.var? P n = some cs) : ∃ u z, W.heap[g]? = some (.cells cs u z) := by
  unfold World.var? at h
  rw [hg] at h
  simp only [Option.bind_some] at h
  split at h
  · rename_i c u z hh; cases h; exact ⟨u, z, hh⟩
  · cases h
theorem gl_of_laid {W : World} (h : laidMet Tryd.prog laidL W) : Gl (old W) W := by
  have h2 := laidMet.tail (laidMet.tail h)
  have tab : Lib.TabIs Tryd.prog W _ .u64 Lib.pow10Tab := Lib.tabIs_of_head (g := 2) (t := 95) (e := 61) (n := 20) (by kernel_rfl) (by kernel_rfl) Tryd.underlying95 Tryd.underlying61 (by kernel_rfl) (by kernel_rfl) h2
  have h3 := laidMet.tail h2
  obtain ⟨a1, s1, v1, -⟩ := laid_sentinel (g := 1) (ti := 63) (tp := 90) (te := 92) (ts := 9) h3 (by kernel_rfl) (by kernel_rfl) Tryd.underlying63 (fun u hu => typeName_ptr_named (nm := "errors.errorString") (by kernel_rfl) (by kernel_rfl) (by decide) u (hu.trans (congrArg some (by decide)))) Tryd.underlying90 Tryd.underlying92 rfl rfl Tryd.underlying9 (by kernel_rfl) (by kernel_rfl)
  have h4 := laidMet.tail h3
  obtain ⟨a0, s0, v0, -⟩ := laid_sentinel (g := 0) (ti := 63) (tp := 90) (te := 92) (ts := 9) h4 (by kernel_rfl) (by kernel_rfl) Tryd.underlying63 (fun u hu => typeName_ptr_named (nm := "errors.errorString") (by kernel_rfl) (by kernel_rfl) (by decide) u (hu.trans (congrArg some (by decide)))) Tryd.underlying90 Tryd.underlying92 rfl rfl Tryd.underlying9 (by kernel_rfl) (by kernel_rfl)
  obtain ⟨u0, z0, e0⟩ := var_heap (g := 0) (by kernel_rfl) v0
  obtain ⟨u1, z1, e1⟩ := var_heap (g := 1) (by kernel_rfl) v1
  obtain ⟨u2, z2, e2⟩ := var_heap (g := 2) (by kernel_rfl) tab
  have et : (Lib.pow10Tab.map fun z => Value.int .u64 z).toArray = ((List.range 20).map fun i => Value.int .u64 (10 ^ i)).toArray := by congr 1
  rw [et] at e2
  have lt : ∀ (g : Nat) (o : Obj), W.heap[g]? = some o → g < W.heap.size := fun g o h => (Array.getElem?_eq_some_iff.1 h).1
  refine ⟨fun g hg => ?_, 90, .pointer (some a0), u0, z0, 90, .pointer (some a1), u1, z1, u2, z2, ?_⟩
  · simp only [globs, List.mem_cons, List.not_mem_nil, or_false] at hg
    rcases hg with rfl | rfl | rfl
    · exact lt _ _ e0
    · exact lt _ _ e1
    · exact lt _ _ e2
  · simp only [globs, List.map_cons, List.map_nil, e0, e1, e2]

abbrev synS : ByteArray := { data := #[105, 110, 118, 97, 108, 105, 100, 32, 115, 121, 110, 116, 97, 120] }
abbrev rngS : ByteArray := { data := #[118, 97, 108, 117, 101, 32, 111, 117, 116, 32, 111, 102, 32, 114, 97, 110, 103, 101] }
def tabCells (d : DataW Unit) : Array Value := match d with
  | .agg l => (l.map fun x => match x with | .lit (.int k z) => Value.int k z | _ => Value.bool false).toArray
  | _ => #[]
noncomputable def low : Nat := (World.holding Tryd.prog default ⟨#[], #[], []⟩).heap.size
/-- The settled world, two texts behind it, the five variables as the program lays them. -/
noncomputable def laidWorld (os : Os) : World :=
  let w0 := World.holding Tryd.prog os ⟨#[.cells #[.string synS] 92, .cells #[.string rngS] 92], #[], []⟩
  let put (cs : Array Value) (o : Obj) : Obj := match o with | .cells _ t z => .cells cs t z | o => o
  { w0 with heap := ((((w0.heap.modify 0 (put #[.iface 90 (.pointer (some ⟨low, 0, none⟩))])).modify 1 (put #[.iface 90 (.pointer (some ⟨low + 1, 0, none⟩))])).modify 2 (put (tabCells Rows.laid_internal_strconv_uint64pow10))).modify 3 (put (tabCells Rows.laid_math_bits_deBruijn32tab))).modify 4 (put (tabCells Rows.laid_math_bits_deBruijn64tab)) }
theorem laidWorld_met (os : Os) (args : Array Value) : laidMet Tryd.prog laidL ((laidWorld os).forCall (fun _ _ => 0) ⟨#[], args, []⟩).memory :=
  laidMet_of_run' 8 (by kernel_rfl) (by kernel_rfl)
end Go.Proofs.YtjmgnodeohmboaaDoor.Am
