/-
  THE ARGUMENTS OF THE LAWS OVER FRAMES, as they are read.
-/
import Derived.Test.YtbhbpahbopjfeaaP6
import Derived.Test.YtbhbpahbopjfeaaLB
namespace Go.Proofs.Ytbhbpahbopjfeaa.Am
set_option linter.unusedSimpArgs false
set_option linter.unusedVariables false
open Go Go.Proofs Go.ChangeShapes Go.WideShapes Go.ChangeAt Go.RowKit

section
variable {H : Type} {enc : TypeId × Value → H} {w : World} {spare : Nat → Bool} {held : Bool} {fuel : Nat} {cs : List Value} {y : DataW H × List MemPlace}

set_option maxRecDepth 100000 in
theorem name_of_trod (h : DataW.trod enc Try.prog w 0 spare held fuel 58 cs = some y) (hl : cs.length = 3) :
    ∃ a b c : Int, 0 ≤ b ∧ cs = [.int .i64 a, .int .u8 b, .int .i64 c] := by
  obtain ⟨xs, n, rfl, _, _, hxs, hf⟩ := DataW.trod_struct Try.underlying58 h
  match cs, hl with
  | [c0, c1, c2], _ =>
    have c1' : Try.prog.cellsOf 3 = 1 := by kernel_rfl
    have c2' : Try.prog.cellsOf 5 = 1 := by kernel_rfl
    have hsz : xs.length = 3 := hxs
    obtain ⟨z0, h0⟩ : ∃ z, xs[0]? = some z := ⟨_, List.getElem?_eq_getElem (by omega)⟩
    obtain ⟨z1, h1⟩ : ∃ z, xs[1]? = some z := ⟨_, List.getElem?_eq_getElem (by omega)⟩
    obtain ⟨z2, h2⟩ : ∃ z, xs[2]? = some z := ⟨_, List.getElem?_eq_getElem (by omega)⟩
    have g0 : DataW.trod enc Try.prog w 0 spare held n 3 (List.take (Try.prog.cellsOf 3) [c0, c1, c2]) = some z0 := (hf 0 _ rfl).trans h0
    have g1 : DataW.trod enc Try.prog w 0 spare held n 5 (List.take (Try.prog.cellsOf 5) [c1, c2]) = some z1 := (hf 1 _ rfl).trans h1
    have g2 : DataW.trod enc Try.prog w 0 spare held n 3 (List.take (Try.prog.cellsOf 3) [c2]) = some z2 := (hf 2 _ rfl).trans h2
    rw [c1'] at g0 g2
    rw [c2'] at g1
    simp only [List.take_succ_cons, List.take_zero] at g0 g1 g2
    obtain ⟨k, e0, _, w0⟩ := DataW.trod_int Try.underlying3 g0
    obtain ⟨m, e1, _, w1⟩ := DataW.trod_int Try.underlying5 g1
    obtain ⟨r, e2, _, w2⟩ := DataW.trod_int Try.underlying3 g2
    cases e0; cases e1; cases e2
    exact ⟨k, m, r, (u8_wf w1).1, rfl⟩

set_option maxRecDepth 100000 in
/-- A frame of the document's. -/
theorem frame_of_trod {v : Value} {d : DataW H} {p : List MemPlace} {base : Nat} (hv : Value.okWide Try.prog w .any base 60 v) (h : DataW.Trod enc Try.prog w 0 spare held 60 v d p) :
    ∃ f : Frm, VR (old w) w [] (avF f) v ∧ 0 ≤ f.from_ := by
  obtain ⟨⟨cs⟩, rfl, hs⟩ := okWide_struct Try.underlying60 hv
  have hc5 : Try.prog.cellsOf 60 = 5 := by kernel_rfl
  rw [hc5] at hs
  obtain ⟨fuel, h⟩ := h
  have h' : DataW.trod enc Try.prog w 0 spare held fuel 60 cs = some (d, p) := h
  obtain ⟨xs, n, _, _, _, hxs, hf⟩ := DataW.trod_struct Try.underlying60 h'
  match cs, hs with
  | [c0, c1, c2, c3, c4], _ =>
    have c0' : Try.prog.cellsOf 58 = 3 := by kernel_rfl
    have c1' : Try.prog.cellsOf 3 = 1 := by kernel_rfl
    have c2' : Try.prog.cellsOf 9 = 1 := by kernel_rfl
    have hsz : xs.length = 3 := hxs
    obtain ⟨z0, h0⟩ : ∃ z, xs[0]? = some z := ⟨_, List.getElem?_eq_getElem (by omega)⟩
    obtain ⟨z1, h1⟩ : ∃ z, xs[1]? = some z := ⟨_, List.getElem?_eq_getElem (by omega)⟩
    obtain ⟨z2, h2⟩ : ∃ z, xs[2]? = some z := ⟨_, List.getElem?_eq_getElem (by omega)⟩
    have g0 : DataW.trod enc Try.prog w 0 spare held n 58 (List.take (Try.prog.cellsOf 58) [c0, c1, c2, c3, c4]) = some z0 := (hf 0 _ rfl).trans h0
    have g1 : DataW.trod enc Try.prog w 0 spare held n 3 (List.take (Try.prog.cellsOf 3) [c3, c4]) = some z1 := (hf 1 _ rfl).trans h1
    have g2 : DataW.trod enc Try.prog w 0 spare held n 9 (List.take (Try.prog.cellsOf 9) [c4]) = some z2 := (hf 2 _ rfl).trans h2
    rw [c0'] at g0
    rw [c1'] at g1
    rw [c2'] at g2
    simp only [List.take_succ_cons, List.take_zero] at g0 g1 g2
    obtain ⟨a, b, c, hb, e0⟩ := name_of_trod g0 rfl
    obtain ⟨k, e1, _, w1⟩ := DataW.trod_int Try.underlying3 g1
    obtain ⟨s, e2, _, _⟩ := DataW.trod_string Try.underlying9 g2
    cases e0; cases e1; cases e2
    exact ⟨⟨a, b, c, k, s⟩, .agg (.cons (.v _) (.cons (.v _) (.cons (.v _) (.cons (.v _) (.cons (.v _) .nil))))), hb⟩
end
end Go.Proofs.Ytbhbpahbopjfeaa.Am
