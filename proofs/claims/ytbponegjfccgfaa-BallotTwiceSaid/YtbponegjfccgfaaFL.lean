/-
  CELLS THAT NAME NO BLOCK OF THE CALL'S OWN. No program is named here.
-/
import Derived.Test.YtbponegjfccgfaaAmJ
namespace Go.Proofs.Ytbponegjfccgfaa.Am
set_option linter.unusedSimpArgs false
set_option linter.unusedVariables false
open Go

def FlatC (a : AV) : Prop := (∃ v, a = .v v ∧ v.oneCell' = true ∧ v ≠ .slice none 0 0) ∨ ∃ sz es, a = .fsl sz es
def FlatL (c : List AV) : Prop := ∀ a ∈ c, FlatC a
section
variable {a : AV} {c : List AV} {m : List Blk}
theorem FlatC.res (h : FlatC a) : a.res m = a := by
  rcases h with ⟨v, rfl, _, hn⟩ | ⟨sz, es, rfl⟩
  · unfold AV.res; split <;> first | rfl | exact absurd rfl hn
  · rfl
theorem FlatC.frz (h : FlatC a) : a.frz m = a := by
  rcases h with ⟨v, rfl, _, hn⟩ | ⟨sz, es, rfl⟩
  · unfold AV.frz; split <;> first | rfl | exact absurd rfl hn | simp_all
  · rfl
theorem FlatC.mapId (h : FlatC a) (f : Nat → Nat) : a.mapId f = a := by rcases h with ⟨v, rfl, _, _⟩ | ⟨sz, es, rfl⟩ <;> rfl
theorem FlatC.ids (h : FlatC a) : a.ids = [] := by rcases h with ⟨v, rfl, _, _⟩ | ⟨sz, es, rfl⟩ <;> rfl
theorem FlatC.slices (h : FlatC a) : a.slices = [] := by rcases h with ⟨v, rfl, _, _⟩ | ⟨sz, es, rfl⟩ <;> rfl
theorem FlatC.bare (h : FlatC a) : a.isBare = true := by rcases h with ⟨v, rfl, _, _⟩ | ⟨sz, es, rfl⟩ <;> rfl
theorem FlatC.one (h : FlatC a) : a.one = true := by rcases h with ⟨v, rfl, h1, _⟩ | ⟨sz, es, rfl⟩; exact h1; rfl
theorem FlatC.lend (h : FlatC a) : a.lend m = a := by rcases h with ⟨v, rfl, _, _⟩ | ⟨sz, es, rfl⟩ <;> rfl
theorem flat_res : ∀ {c : List AV}, FlatL c → AV.resAll m c = c
  | [], _ => rfl
  | a :: c, h => by rw [AV.resAll, (h a (by simp)).res, flat_res fun x hx => h x (by simp [hx])]
theorem flat_frz : ∀ {c : List AV}, FlatL c → AV.frzAll m c = c
  | [], _ => rfl
  | a :: c, h => by rw [AV.frzAll, (h a (by simp)).frz, flat_frz fun x hx => h x (by simp [hx])]
theorem flat_mapId {f : Nat → Nat} : ∀ {c : List AV}, FlatL c → AV.mapIdAll f c = c
  | [], _ => rfl
  | a :: c, h => by rw [AV.mapIdAll, (h a (by simp)).mapId, flat_mapId fun x hx => h x (by simp [hx])]
theorem flat_ids : ∀ {c : List AV}, FlatL c → AV.idsAll c = []
  | [], _ => rfl
  | a :: c, h => by rw [AV.idsAll, (h a (by simp)).ids, flat_ids fun x hx => h x (by simp [hx])]; rfl
theorem flat_slices : ∀ {c : List AV}, FlatL c → AV.slicesAll c = []
  | [], _ => rfl
  | a :: c, h => by rw [AV.slicesAll, (h a (by simp)).slices, flat_slices fun x hx => h x (by simp [hx])]; rfl
theorem flat_bare : ∀ {c : List AV}, FlatL c → AV.isBareAll c = true
  | [], _ => rfl
  | a :: c, h => by rw [AV.isBareAll, (h a (by simp)).bare, flat_bare fun x hx => h x (by simp [hx])]; rfl
theorem flat_lend : ∀ {c : List AV}, FlatL c → AV.lendAll m c = c
  | [], _ => rfl
  | a :: c, h => by rw [AV.lendAll, (h a (by simp)).lend, flat_lend fun x hx => h x (by simp [hx])]
theorem flat_one (h : FlatL c) : c.all AV.one = true := List.all_eq_true.2 fun a ha => (h a ha).one
end
attribute [simp] flat_res flat_frz flat_mapId flat_ids flat_slices flat_bare flat_lend flat_one
theorem flat_nil : FlatL [] := fun _ h => by simp at h
theorem flat_cons {a : AV} {c : List AV} (h : FlatC a) (k : FlatL c) : FlatL (a :: c) := fun x hx => by
  rcases List.mem_cons.1 hx with rfl | hx
  · exact h
  · exact k x hx
theorem flat_int (k : IntKind) (n : Int) : FlatC (.v (.int k n)) := .inl ⟨_, rfl, rfl, fun h => by cases h⟩
theorem flat_str (s : ByteArray) : FlatC (.v (.string s)) := .inl ⟨_, rfl, rfl, fun h => by cases h⟩
theorem flat_bool (b : Bool) : FlatC (.v (.bool b)) := .inl ⟨_, rfl, rfl, fun h => by cases h⟩
theorem flat_fsl (sz : Nat) (es : List AV) : FlatC (.fsl sz es) := .inr ⟨_, _, rfl⟩
theorem flat_append {c d : List AV} (h : FlatL c) (k : FlatL d) : FlatL (c ++ d) := fun x hx => by
  rcases List.mem_append.1 hx with hx | hx
  · exact h x hx
  · exact k x hx
theorem map_shaped {α : Type} {av : α → AV} {l : List α} (h : ∀ x ∈ l, (av x).shaped = true) : (l.map av).all AV.shaped = true :=
  List.all_eq_true.2 fun a ha => by obtain ⟨x, hx, rfl⟩ := List.mem_map.1 ha; exact h x hx
end Go.Proofs.Ytbponegjfccgfaa.Am
