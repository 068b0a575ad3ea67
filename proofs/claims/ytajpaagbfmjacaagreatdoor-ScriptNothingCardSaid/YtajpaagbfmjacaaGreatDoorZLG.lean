/-
  THE ARGUMENTS OF THE LAWS OVER SCRIPTS, as they are read; the package-level variables, as they lie.
-/
import Derived.Test.YtajpaagbfmjacaaGreatDoorZL0
import Derived.Lib.LaidTab
import Derived.Lib.ItoaNum
import Derived.Stop.LaidErr
import Derived.SizedLaws
set_option maxRecDepth 100000
namespace Go.Proofs.YtajpaagbfmjacaaGreatDoor.Am
set_option linter.unusedSimpArgs false
set_option linter.unusedVariables false
open Go Go.Proofs Go.ChangeShapes Go.WideShapes Go.ChangeAt Go.RowKit

section
variable {H : Type} {enc : TypeId × Value → H} {w : World} {spare : Nat → Bool} {held : Bool} {v : Value} {d : DataW H} {p : List MemPlace} {base : Nat}

/-- Bytes. -/
theorem bytes_of_trod {v : Value} {d : DataW H} {p : List MemPlace} (h : DataW.Trod enc Tryz.prog w 0 spare held 22 v d p) (hv : ∀ cs, v ≠ .agg cs) :
    ∃ l : List UInt8, VR (old w) w [] (.fsl 1 (bv l)) v := by
  obtain ⟨fuel, h⟩ := h
  obtain ⟨u, es, e1, e2, e3, e4⟩ := slice_of_trod (P := Tryz.prog) Tryz.underlying22 (n := 1) (by kernel_rfl) (by decide) (fun a => ∃ b : UInt8, a = .v (.int .u8 b.toNat) ∧ True) (fun fuel cs y h hl => by
    obtain ⟨k, rfl, _, wk⟩ := DataW.trod_int Tryz.underlying5 h
    obtain ⟨k0, k1⟩ := u8_wf wk
    refine ⟨.v (.int .u8 k), ⟨UInt8.ofNat k.toNat, ?_, trivial⟩, rfl, .cons (.v _) .nil⟩
    simp [UInt8.toNat_ofNat']
    omega) h
  obtain ⟨l, rfl, _⟩ := list_of' e3
  have huv : v = u := by
    unfold Value.cells at e1
    split at e1
    · exact absurd rfl (hv _)
    · simpa using e1
  subst huv
  exact ⟨l, e2⟩
end

/-! ### The package-level variables -/
abbrev laidL : List (String × DataW Unit) := Rows.scriptShortRow.laid
theorem var_heap {P : Program} {W : World} {n : String} {g : Nat} {cs : Array Value} (hg : P.globalNamed n = some g) (h : W.var? P n = some cs) : ∃ u z, W.heap[g]? = some (.cells cs u z) := by
  unfold World.var? at h
  rw [hg] at h
  simp only [Option.bind_some] at h
  split at h
  · rename_i c u z hh; cases h; exact ⟨u, z, hh⟩
  · cases h
def tz0 : List Int := [0, 1, 28, 2, 29, 14, 24, 3, 30, 22, 20, 15, 25, 17, 4, 8, 31, 27, 13, 23, 21, 19, 16, 7, 26, 12, 18, 6, 11, 5, 10, 9]
def tz2 : List Int := [1, 10, 100, 1000, 10000, 100000, 1000000, 10000000, 100000000, 1000000000, 10000000000, 100000000000, 1000000000000, 10000000000000, 100000000000000, 1000000000000000, 10000000000000000, 100000000000000000, 1000000000000000000, 10000000000000000000]
def tz3 : List Int := [0, 1, 56, 2, 57, 49, 28, 3, 61, 58, 42, 50, 38, 29, 17, 4, 62, 47, 59, 36, 45, 43, 51, 22, 53, 39, 33, 30, 24, 18, 12, 5, 63, 55, 48, 27, 60, 41, 37, 16, 46, 35, 44, 21, 52, 32, 23, 11, 54, 26, 40, 15, 34, 20, 31, 10, 25, 14, 19, 9, 13, 8, 7, 6]
theorem gl_of_laid {W : World} (h : laidMet Tryz.prog laidL W) : Gl (old W) W := by
  have tab0 : Lib.TabIs Tryz.prog W _ .u8 tz0 := Lib.tabIs_of_head (g := 0) (t := 137) (e := 5) (n := 32) (by kernel_rfl) (by kernel_rfl) Tryz.underlying137 Tryz.underlying5 (by kernel_rfl) (by kernel_rfl) h
  have h1 := laidMet.tail h
  have tab3 : Lib.TabIs Tryz.prog W _ .u8 tz3 := Lib.tabIs_of_head (g := 3) (t := 378) (e := 5) (n := 64) (by kernel_rfl) (by kernel_rfl) Tryz.underlying378 Tryz.underlying5 (by kernel_rfl) (by kernel_rfl) h1
  have h2 := laidMet.tail h1
  have tab2 : Lib.TabIs Tryz.prog W _ .u64 tz2 := Lib.tabIs_of_head (g := 2) (t := 356) (e := 79) (n := 20) (by kernel_rfl) (by kernel_rfl) Tryz.underlying356 Tryz.underlying79 (by kernel_rfl) (by kernel_rfl) h2
  have h3 := laidMet.tail h2
  obtain ⟨a5, s5, v5, -⟩ := laid_sentinel (g := 5) (ti := 144) (tp := 385) (te := 387) (ts := 9) h3 (by kernel_rfl) (by kernel_rfl) Tryz.underlying144 (fun u hu => typeName_ptr_named (nm := "errors.errorString") (by kernel_rfl) (by kernel_rfl) (by decide) u (hu.trans (congrArg some (by decide)))) Tryz.underlying385 Tryz.underlying387 rfl rfl Tryz.underlying9 (by kernel_rfl) (by kernel_rfl)
  have h4 := laidMet.tail h3
  obtain ⟨a4, s4, v4, -⟩ := laid_sentinel (g := 4) (ti := 144) (tp := 385) (te := 387) (ts := 9) h4 (by kernel_rfl) (by kernel_rfl) Tryz.underlying144 (fun u hu => typeName_ptr_named (nm := "errors.errorString") (by kernel_rfl) (by kernel_rfl) (by decide) u (hu.trans (congrArg some (by decide)))) Tryz.underlying385 Tryz.underlying387 rfl rfl Tryz.underlying9 (by kernel_rfl) (by kernel_rfl)
  obtain ⟨u0, z0, e0⟩ := var_heap (g := 0) (by kernel_rfl) tab0
  obtain ⟨u2, z2, e2⟩ := var_heap (g := 2) (by kernel_rfl) tab2
  obtain ⟨u3, z3, e3⟩ := var_heap (g := 3) (by kernel_rfl) tab3
  obtain ⟨u4, z4, e4⟩ := var_heap (g := 4) (by kernel_rfl) v4
  obtain ⟨u5, z5, e5⟩ := var_heap (g := 5) (by kernel_rfl) v5
  have lt : ∀ (g : Nat) (o : Obj), W.heap[g]? = some o → g < W.heap.size := fun g o h => (Array.getElem?_eq_some_iff.1 h).1
  refine ⟨fun g hg => ?_, trivial, fun b cs hb => ?_⟩
  · simp only [globs, List.mem_cons, List.not_mem_nil, or_false] at hg
    rcases hg with rfl | rfl | rfl | rfl | rfl
    · exact lt _ _ e0
    · exact lt _ _ e2
    · exact lt _ _ e3
    · exact lt _ _ e4
    · exact lt _ _ e5
  · unfold globA at hb
    split at hb
    · rename_i h; subst h; cases hb; exact ⟨lt _ _ e0, u0, z0, e0⟩
    · split at hb
      · rename_i h; subst h; cases hb; exact ⟨lt _ _ e2, u2, z2, e2⟩
      · split at hb
        · rename_i h; subst h; cases hb; exact ⟨lt _ _ e3, u3, z3, e3⟩
        · cases hb

abbrev synS : ByteArray := { data := #[105, 110, 118, 97, 108, 105, 100, 32, 115, 121, 110, 116, 97, 120] }
abbrev rngS : ByteArray := { data := #[118, 97, 108, 117, 101, 32, 111, 117, 116, 32, 111, 102, 32, 114, 97, 110, 103, 101] }
def tabCells (d : DataW Unit) : Array Value := match d with
  | .agg l => (l.map fun x => match x with | .lit (.int k z) => Value.int k z | _ => Value.bool false).toArray
  | _ => #[]
noncomputable def low : Nat := (World.holding Tryz.prog default ⟨#[], #[], []⟩).heap.size
/-- The settled world, two texts behind it, the five variables as the program lays them. -/
noncomputable def laidWorld (os : Os) : World :=
  let w0 := World.holding Tryz.prog os ⟨#[.cells #[.string synS] 387, .cells #[.string rngS] 387], #[], []⟩
  let put (cs : Array Value) (o : Obj) : Obj := match o with | .cells _ t z => .cells cs t z | o => o
  { w0 with heap := ((((w0.heap.modify 4 (put #[.iface 385 (.pointer (some ⟨low, 0, none⟩))])).modify 5 (put #[.iface 385 (.pointer (some ⟨low + 1, 0, none⟩))])).modify 2 (put (tabCells Rows.laid_internal_strconv_uint64pow10))).modify 0 (put (tabCells Rows.laid_math_bits_deBruijn32tab))).modify 3 (put (tabCells Rows.laid_math_bits_deBruijn64tab)) }
theorem laidWorld_met (os : Os) (args : Array Value) : laidMet Tryz.prog laidL ((laidWorld os).forCall (fun _ _ => 0) ⟨#[], args, []⟩).memory :=
  laidMet_of_run' 8 (by kernel_rfl) (by kernel_rfl)
end Go.Proofs.YtajpaagbfmjacaaGreatDoor.Am
