/-
  THE ARGUMENTS OF THE LAWS OVER FIELDS, as they are read.
-/
import Derived.Test.YtbhbpahbopjfeaaP4
import Derived.Test.YtbhbpahbopjfeaaAmH
import Derived.Test.YtbhbpahbopjfeaaRows
namespace Go.Proofs.Ytbhbpahbopjfeaa.Am
set_option linter.unusedSimpArgs false
set_option linter.unusedVariables false
open Go Go.Proofs Go.ChangeShapes Go.WideShapes Go.ChangeAt Go.RowKit

theorem own : ownKnob Try.prog.godebug = none := by kernel_rfl
theorem laidOut : laidOutB Try.prog = true := by kernel_rfl

theorem word_wf {x : Int} (h : (Lit.int .u64 x).wf = true) : 0 ≤ x ∧ x < 18446744073709551616 := by
  simp [Lit.wf, IntKind.min, IntKind.max, IntKind.signed, IntKind.bits] at h
  exact ⟨by omega, by omega⟩
theorem u16_wf {x : Int} (h : (Lit.int .u16 x).wf = true) : 0 ≤ x ∧ x < 65536 := by
  simp [Lit.wf, IntKind.min, IntKind.max, IntKind.signed, IntKind.bits] at h
  exact ⟨by omega, by omega⟩
theorem u8_wf {x : Int} (h : (Lit.int .u8 x).wf = true) : 0 ≤ x ∧ x < 256 := by
  simp [Lit.wf, IntKind.min, IntKind.max, IntKind.signed, IntKind.bits] at h
  exact ⟨by omega, by omega⟩

section
variable {H : Type} {enc : TypeId × Value → H} {w : World} {spare : Nat → Bool} {held : Bool} {fuel : Nat} {cs : List Value} {y : DataW H × List MemPlace}

set_option maxRecDepth 100000 in
/-- A field of the document's. -/
theorem field_of_trod (h : DataW.trod enc Try.prog w 0 spare held fuel 48 cs = some y) (hl : cs.length = 4) :
    ∃ a, (∃ f : Fld, a = av2 f ∧ f.ok = true) ∧ a.cells.length = 4 ∧ CR (old w) w [] a.cells cs := by
  obtain ⟨xs, n, rfl, _, _, hxs, hf⟩ := DataW.trod_struct Try.underlying48 h
  match cs, hl with
  | [c0, c1, c2, c3], _ =>
    have c1' : Try.prog.cellsOf 3 = 1 := by kernel_rfl
    have c2' : Try.prog.cellsOf 46 = 1 := by kernel_rfl
    have c3' : Try.prog.cellsOf 9 = 1 := by kernel_rfl
    have hsz : xs.length = 4 := hxs
    obtain ⟨z0, h0⟩ : ∃ z, xs[0]? = some z := ⟨_, List.getElem?_eq_getElem (by omega)⟩
    obtain ⟨z1, h1⟩ : ∃ z, xs[1]? = some z := ⟨_, List.getElem?_eq_getElem (by omega)⟩
    obtain ⟨z2, h2⟩ : ∃ z, xs[2]? = some z := ⟨_, List.getElem?_eq_getElem (by omega)⟩
    obtain ⟨z3, h3⟩ : ∃ z, xs[3]? = some z := ⟨_, List.getElem?_eq_getElem (by omega)⟩
    have g0 : DataW.trod enc Try.prog w 0 spare held n 3 (List.take (Try.prog.cellsOf 3) [c0, c1, c2, c3]) = some z0 := (hf 0 _ rfl).trans h0
    have g1 : DataW.trod enc Try.prog w 0 spare held n 46 (List.take (Try.prog.cellsOf 46) [c1, c2, c3]) = some z1 := (hf 1 _ rfl).trans h1
    have g2 : DataW.trod enc Try.prog w 0 spare held n 9 (List.take (Try.prog.cellsOf 9) [c2, c3]) = some z2 := (hf 2 _ rfl).trans h2
    have g3 : DataW.trod enc Try.prog w 0 spare held n 46 (List.take (Try.prog.cellsOf 46) [c3]) = some z3 := (hf 3 _ rfl).trans h3
    rw [c1'] at g0
    rw [c2'] at g1
    rw [c3'] at g2
    rw [c2'] at g3
    simp only [List.take_succ_cons, List.take_zero] at g0 g1 g2 g3
    obtain ⟨k, e0, _, w0⟩ := DataW.trod_int Try.underlying3 g0
    obtain ⟨m, e1, _, w1⟩ := DataW.trod_int Try.underlying46 g1
    obtain ⟨s, e2, _, _⟩ := DataW.trod_string Try.underlying9 g2
    obtain ⟨r, e3, _, w3⟩ := DataW.trod_int Try.underlying46 g3
    cases e0; cases e1; cases e2; cases e3
    obtain ⟨m0, m1⟩ := word_wf w1
    obtain ⟨r0, r1⟩ := word_wf w3
    refine ⟨av2 ⟨k, m.toNat, s, r.toNat⟩, ⟨_, rfl, by rw [Fld.ok_iff]; simp only; omega⟩, rfl, ?_⟩
    simp only [av2, AV.cells, Int.toNat_of_nonneg m0, Int.toNat_of_nonneg r0]
    exact .cons (.v _) (.cons (.v _) (.cons (.v _) (.cons (.v _) .nil)))

theorem list_of {α : Type} {av : α → AV} {Q : α → Prop} : ∀ {es : List AV}, (∀ a ∈ es, ∃ f, a = av f ∧ Q f) → ∃ l : List α, es = l.map av ∧ ∀ f ∈ l, Q f
  | [], _ => ⟨[], rfl, by simp⟩
  | a :: es, h => by
    obtain ⟨f, rfl, hq⟩ := h a (by simp)
    obtain ⟨l, rfl, hl⟩ := list_of (es := es) (fun b hb => h b (by simp [hb]))
    refine ⟨f :: l, rfl, fun g hg => ?_⟩
    rcases List.mem_cons.1 hg with rfl | hg
    · exact hq
    · exact hl g hg

/-- Fields of the document's. -/
theorem fields_of_trod {v : Value} {d : DataW H} {p : List MemPlace} (h : DataW.Trod enc Try.prog w 0 spare held 22 v d p) (hv : ∀ cs, v ≠ .agg cs) :
    ∃ l : List Fld, VR (old w) w [] (.fsl 4 (l.map av2)) v ∧ (∀ f ∈ l, f.ok = true) ∧ l.length ≤ 9223372036854775807 := by
  obtain ⟨fuel, h⟩ := h
  obtain ⟨u, es, e1, e2, e3, e4⟩ := slice_of_trod (P := Try.prog) Try.underlying22 (n := 4) (by kernel_rfl) (by decide) (fun a => ∃ f : Fld, a = av2 f ∧ f.ok = true) (fun fuel cs y h hl => field_of_trod h hl) h
  obtain ⟨l, rfl, hl⟩ := list_of e3
  have huv : v = u := by
    unfold Value.cells at e1
    split at e1
    · exact absurd rfl (hv _)
    · simpa using e1
  subst huv
  refine ⟨l, e2, hl, ?_⟩
  rw [List.length_map] at e4
  simp only [maxLen] at e4
  omega

/-- Bytes. -/
theorem bytes_of_trod {v : Value} {d : DataW H} {p : List MemPlace} (h : DataW.Trod enc Try.prog w 0 spare held 26 v d p) (hv : ∀ cs, v ≠ .agg cs) :
    ∃ l : List UInt8, VR (old w) w [] (.fsl 1 (bv l)) v := by
  obtain ⟨fuel, h⟩ := h
  obtain ⟨u, es, e1, e2, e3, e4⟩ := slice_of_trod (P := Try.prog) Try.underlying26 (n := 1) (by kernel_rfl) (by decide) (fun a => ∃ b : UInt8, a = .v (.int .u8 b.toNat) ∧ True) (fun fuel cs y h hl => by
    obtain ⟨k, rfl, _, wk⟩ := DataW.trod_int Try.underlying5 h
    obtain ⟨k0, k1⟩ := u8_wf wk
    refine ⟨.v (.int .u8 k), ⟨UInt8.ofNat k.toNat, ?_, trivial⟩, rfl, .cons (.v _) .nil⟩
    simp [UInt8.toNat_ofNat']
    omega) h
  obtain ⟨l, rfl, _⟩ := list_of e3
  have huv : v = u := by
    unfold Value.cells at e1
    split at e1
    · exact absurd rfl (hv _)
    · simpa using e1
  subst huv
  exact ⟨l, e2⟩

/-- Numbers. -/
theorem ints_of_trod {v : Value} {d : DataW H} {p : List MemPlace} (h : DataW.Trod enc Try.prog w 0 spare held 23 v d p) (hv : ∀ cs, v ≠ .agg cs) :
    ∃ l : List Int, VR (old w) w [] (.fsl 1 (l.map fun k => .v (.int .i64 k))) v := by
  obtain ⟨fuel, h⟩ := h
  obtain ⟨u, es, e1, e2, e3, e4⟩ := slice_of_trod (P := Try.prog) Try.underlying23 (n := 1) (by kernel_rfl) (by decide) (fun a => ∃ b : Int, a = .v (.int .i64 b) ∧ True) (fun fuel cs y h hl => by
    obtain ⟨k, rfl, _, wk⟩ := DataW.trod_int Try.underlying3 h
    exact ⟨.v (.int .i64 k), ⟨k, rfl, trivial⟩, rfl, .cons (.v _) .nil⟩) h
  obtain ⟨l, rfl, _⟩ := list_of e3
  have huv : v = u := by
    unfold Value.cells at e1
    split at e1
    · exact absurd rfl (hv _)
    · simpa using e1
  subst huv
  exact ⟨l, e2⟩
end
end Go.Proofs.Ytbhbpahbopjfeaa.Am
