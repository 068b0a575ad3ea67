/-
  strconv.ParseUint AT FOUR BITS AND strconv.Itoa, as contracts of the machine.
-/
import Derived.Test.YtjmgnodeohmboaaDoorPU
import Derived.Test.YtjmgnodeohmboaaDoorLAY
import Derived.Test.YtjmgnodeohmboaaDoorAmJ
import Derived.Shelf.Strconv.Itoa3
namespace Go.Proofs.YtjmgnodeohmboaaDoor.Am
set_option linter.unusedSimpArgs false
set_option linter.unusedVariables false
open Go Go.Proofs Go.Shelf Go.RowKit

/-- A contract of the library's as one of the machine's: it looks at no block of the caller's. -/
theorem ok_of_calls {P : Program} {f : FuncId} {sp : Spec} (he : Enters P f)
    (h : ∀ (args : List AV) (mem : List Blk) (r : Res) (mem' : List Blk), sp args mem = some (r, mem') → mem = [] ∧ mem' = [] ∧ ∃ a, r = .ret a ∧ ∀ (F : Nat → Prop) (w : World) (vs : List Value), Gl F w → CR F w [] args vs →
      Calls P f vs.toArray w fun e w' => ∃ y, e = .returned y ∧ Below w.heap.size w w' ∧ VR F w' [] a y) : CallOk P f sp := by
  refine .inl ⟨he, fun args mem r mem' hs O F B w vs hO hm hc => ?_⟩
  obtain ⟨rfl, rfl, a, rfl, hx⟩ := h args mem r mem' hs
  have hB : B = [] := by have := hm.len; simpa using this
  subst hB
  refine (hx F w vs hm.gl hc).mono ?_
  rintro e w' ⟨y, rfl, hb, hv⟩
  have keep : ∀ b, F b → w'.heap[b]? = w.heap[b]? := fun b hF => hb.block b (hm.fr b hF)
  refine ⟨F, [], hm.go hb.size (fun b h => ?_), ⟨fun _ h => h, fun _ _ h => h, keep⟩, ⟨hb.os, hb.tape, hb.output, hb.size, fun k hk _ => hb.block k hk⟩, fun _ h => .inl h, hv⟩
  rcases h with h | ⟨i, h⟩
  · exact keep b h
  · obtain ⟨_, _, h1, _⟩ := ownB_some h; simp at h1

theorem cr1 {F : Nat → Prop} {w : World} {x : Value} {vs : List Value} (h : CR F w [] [.v x] vs) : vs = [x] := by
  cases h with | cons h t => cases t; cases h; rfl
theorem cr3 {F : Nat → Prop} {w : World} {x y z : Value} {vs : List Value} (h : CR F w [] [.v x, .v y, .v z] vs) : vs = [x, y, z] := by
  cases h with | cons h t => cases t with | cons h' t => cases t with | cons h'' t => cases t; cases h; cases h'; cases h''; rfl

theorem gl_vars {F : Nat → Prop} {w : World} (h : Gl F w) : (∃ (t : TypeId) (x : Value), w.cell? ⟨0, 0, none⟩ = some (.iface t x)) ∧ (∃ (t : TypeId) (x : Value), w.cell? ⟨1, 0, none⟩ = some (.iface t x)) ∧
    ∃ (u : TypeId) (z : Nat × Nat), w.heap[2]? = some (.cells ((List.range 20).map fun i => Value.int .u64 (10 ^ i)).toArray u z) := by
  obtain ⟨t0, x0, u0, z0, t1, x1, u1, z1, u2, z2, e⟩ := h.ok
  simp only [globs, List.map_cons, List.map_nil, List.cons.injEq] at e
  obtain ⟨e0, e1, e2, _⟩ := e
  exact ⟨⟨t0, x0, by simp [World.cell?, e0]⟩, ⟨t1, x1, by simp [World.cell?, e1]⟩, u2, z2, e2⟩

def numOf (t : ByteArray) : AV := match Lib.parseUintB 4 t.data.toList with
  | .ok u => .tup [.v (.int .u64 u), .v .nilIface]
  | .range => .tup [.v (.int .u64 15), .ifc 76 .any]
  | _ => .tup [.v (.int .u64 0), .ifc 76 .any]
def spNum : Spec
  | [.v (.string t), .v (.int .i64 10), .v (.int .i64 4)], [] => if t.size ≤ 281474976710656 then some (.ret (numOf t), []) else none
  | _, _ => none

theorem num_ok : CallOk Tryd.prog 30 spNum := by
  refine ok_of_calls ⟨_, Tryd.func30, by kernel_rfl, by kernel_rfl⟩ fun args mem r mem' hs => ?_
  unfold spNum at hs
  split at hs
  case h_2 => cases hs
  rename_i t
  obtain ⟨hlim, h4⟩ := if_some hs
  cases h4
  refine ⟨rfl, rfl, _, rfl, fun F w vs hg hc => ?_⟩
  rw [cr3 hc]
  obtain ⟨⟨t0, x0, c0⟩, ⟨t1, x1, c1⟩, -⟩ := gl_vars hg
  have hbw : Below w.heap.size w (Lib.bytesWorld w 5 t) := Lib.bytesWorld_below _ _ _
  unfold numOf
  rcases h : Lib.parseUintB 4 t.data.toList with u | _ | _
  · refine (pu4_ok layPu t (by omega) u h w).mono ?_
    rintro e w' ⟨rfl, hw⟩
    refine ⟨_, rfl, ?_, .tup (.cons (.v _) (.cons (.v _) .nil))⟩
    rcases hw with rfl | rfl
    · exact Below.refl _ _
    · exact Lib.bytesWorld_below _ _ _
  · refine (pu4_syn layPu t hlim h _ w c0 (.inr ⟨_, _, rfl⟩)).mono ?_
    rintro e w' ⟨N, rfl, _, _, hb⟩
    exact ⟨_, rfl, hb, .tup (.cons (.v _) (.cons (.ifc (.any _)) .nil))⟩
  · refine (pu4_range layPu t hlim h _ w c1 (.inr ⟨_, _, rfl⟩)).mono ?_
    rintro e w' ⟨N, rfl, _, _, hb⟩
    exact ⟨_, rfl, hb, .tup (.cons (.v _) (.cons (.ifc (.any _)) .nil))⟩

def itoaS (n : Nat) : ByteArray := ⟨(Lib.itoa n).toArray⟩
def spItoa : Spec
  | [.v (.int .i64 n)], [] => if 0 ≤ n ∧ n < 256 then some (.ret (.v (.string (itoaS n.toNat))), []) else none
  | _, _ => none

theorem itoa_ok : CallOk Tryd.prog 31 spItoa := by
  refine ok_of_calls ⟨_, Tryd.func31, by kernel_rfl, by kernel_rfl⟩ fun args mem r mem' hs => ?_
  unfold spItoa at hs
  split at hs
  case h_2 => cases hs
  rename_i n
  obtain ⟨⟨h0, h1⟩, h4⟩ := if_some hs
  cases h4
  refine ⟨rfl, rfl, _, rfl, fun F w vs hg hc => ?_⟩
  rw [cr1 hc]
  obtain ⟨-, -, u, z, hh⟩ := gl_vars hg
  refine (Any.strconv_Itoa layIt n (by omega) (by omega) w ?_).mono ?_
  · unfold Lib.TabIs World.var?
    rw [layIt.m17]
    show (match w.heap[2]? with | some (.cells cs _ _) => some cs | _ => none) = _
    rw [hh]
    show some _ = some _
    congr 1
  · rintro e w' ⟨rfl, k, os, rfl⟩
    refine ⟨_, rfl, ?_, ?_⟩
    · exact ⟨rfl, rfl, rfl, by show w.heap.size ≤ (w.heap ++ os).size; rw [Array.size_append]; omega, fun j hj => by show (w.heap ++ os)[j]? = _; rw [Array.getElem?_append_left hj]⟩
    · have : itoaS n.toNat = ⟨(Lib.itoa n).toArray⟩ := by unfold itoaS; rw [Int.toNat_of_nonneg h0]
      rw [this]; exact .v _
end Go.Proofs.YtjmgnodeohmboaaDoor.Am
