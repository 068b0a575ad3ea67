/-
  THE ABSTRACT MACHINE: arguments as they are read, by their types. No program is named here.
-/
import Derived.Test.YtjmgnodeohmboaaDoorAmI
import Derived.OpenShut
namespace Go.Proofs.YtjmgnodeohmboaaDoor.Am
set_option linter.unusedSimpArgs false
set_option linter.unusedVariables false
open Go Go.RowKit Go.ChangeShapes Go.WideShapes

/-- Arguments of a type have so many cells, read as a relation tells. -/
def Rd {H : Type} (enc : TypeId × Value → H) (P : Program) (t : TypeId) (n : Nat) (R : List AV → Prop) : Prop :=
  P.cellsOf t = n ∧ ∀ (w : World) (spare : Nat → Bool) (held : Bool) (fuel : Nat) (cs : List Value) (y : DataW H × List MemPlace),
    DataW.trod enc P w 0 spare held fuel t cs = some y → cs.length = n → ∃ as, R as ∧ CR (old w) w [] as cs

/-- One behind the other. -/
def Cat : List (TypeId × Nat × (List AV → Prop)) → List AV → Prop
  | [], as => as = []
  | f :: r, as => ∃ a b, as = a ++ b ∧ f.2.2 a ∧ Cat r b
def ArrOf (R : List AV → Prop) : Nat → List AV → Prop
  | 0, as => as = []
  | k + 1, as => ∃ a b, as = a ++ b ∧ R a ∧ ArrOf R k b
def lay (P : Program) : List Field → List (TypeId × Nat) → Nat → Bool
  | [], [], _ => true
  | f :: fs, (t, n) :: r, o => f.type == t && f.offset == o && P.cellsOf t == n && lay P fs r (o + n)
  | _, _, _ => false

section
variable {H : Type} {enc : TypeId × Value → H} {P : Program} {t e : TypeId} {n : Nat} {R : List AV → Prop}

theorem rd_int {k : IntKind} (ht : P.underlying t = some (.int k)) (hc : P.cellsOf t = 1) : Rd enc P t 1 (fun as => ∃ n, as = [.v (.int k n)] ∧ (Lit.int k n).wf = true) :=
  ⟨hc, fun w spare held fuel cs y h _ => by
    obtain ⟨n, rfl, _, hw⟩ := DataW.trod_int ht h
    exact ⟨_, ⟨n, rfl, hw⟩, .cons (.v _) .nil⟩⟩
theorem rd_string (ht : P.underlying t = some .string) (hc : P.cellsOf t = 1) : Rd enc P t 1 (fun as => ∃ s, as = [.v (.string s)]) :=
  ⟨hc, fun w spare held fuel cs y h _ => by
    obtain ⟨n, rfl, _, hw⟩ := DataW.trod_string ht h
    exact ⟨_, ⟨n, rfl⟩, .cons (.v _) .nil⟩⟩
theorem rd_bool (ht : P.underlying t = some .bool) (hc : P.cellsOf t = 1) : Rd enc P t 1 (fun as => ∃ b, as = [.v (.bool b)]) :=
  ⟨hc, fun w spare held fuel cs y h _ => by
    obtain ⟨b, rfl, _⟩ := DataW.trod_bool ht h
    exact ⟨_, ⟨b, rfl⟩, .cons (.v _) .nil⟩⟩

theorem rd_fields {w : World} {spare : Nat → Bool} {held : Bool} {m : Nat} {cs : List Value} : ∀ (Rs : List (TypeId × Nat × (List AV → Prop))) (fs : List Field) (o : Nat),
    lay P fs (Rs.map fun r => (r.1, r.2.1)) o = true → (∀ r ∈ Rs, Rd enc P r.1 r.2.1 r.2.2) → cs.length = o + (Rs.map fun r => r.2.1).sum →
    (∀ (i : Nat) (f : Field), fs[i]? = some f → ∃ y, DataW.trod enc P w 0 spare held m f.type ((cs.drop f.offset).take (P.cellsOf f.type)) = some y) → ∃ as, Cat Rs as ∧ CR (old w) w [] as (cs.drop o)
  | [], fs, o, hl, hr, hc, hf => by
    refine ⟨[], rfl, ?_⟩
    rw [List.drop_of_length_le (by simp at hc; omega)]
    exact .nil
  | r :: Rs, [], o, hl, hr, hc, hf => by simp [lay] at hl
  | r :: Rs, f :: fs, o, hl, hr, hc, hf => by
    simp only [List.map_cons, lay, Bool.and_eq_true, beq_iff_eq] at hl
    obtain ⟨⟨⟨e1, e2⟩, e3⟩, e4⟩ := hl
    simp only [List.map_cons, List.sum_cons] at hc
    obtain ⟨bs, b1, b2⟩ := rd_fields Rs fs (o + r.2.1) e4 (fun x hx => hr x (List.mem_cons_of_mem _ hx)) (by omega) (fun i g hg => hf (i + 1) g (by simpa using hg))
    obtain ⟨y, hy⟩ := hf 0 f rfl
    rw [e1, e2, e3] at hy
    obtain ⟨as, a1, a2⟩ := (hr r (by simp)).2 w spare held m _ y hy (by rw [List.length_take, List.length_drop]; omega)
    refine ⟨as ++ bs, ⟨as, bs, rfl, a1, b1⟩, ?_⟩
    have : cs.drop o = (cs.drop o).take r.2.1 ++ cs.drop (o + r.2.1) := by rw [← List.drop_drop, List.take_append_drop]
    rw [this]
    exact a2.append b2

theorem rd_struct {fs : Array Field} (Rs : List (TypeId × Nat × (List AV → Prop))) (ht : P.underlying t = some (.struct fs)) (hc : P.cellsOf t = n) (hn : (Rs.map fun r => r.2.1).sum = n)
    (hl : lay P fs.toList (Rs.map fun r => (r.1, r.2.1)) 0 = true) (hr : ∀ r ∈ Rs, Rd enc P r.1 r.2.1 r.2.2) : Rd enc P t n (Cat Rs) :=
  ⟨hc, fun w spare held fuel cs y h hcl => by
    obtain ⟨xs, m, rfl, _, _, hxs, hf⟩ := DataW.trod_struct ht h
    obtain ⟨as, a1, a2⟩ := rd_fields (w := w) (spare := spare) (held := held) (m := m) (cs := cs) Rs fs.toList 0 hl hr (by omega) (fun i f hi => by
      have hi' : fs[i]? = some f := by simpa using hi
      have hlt : i < xs.length := by rw [hxs]; exact (Array.getElem?_eq_some_iff.1 hi').1
      exact ⟨xs[i], by rw [hf i f hi', List.getElem?_eq_getElem hlt]⟩)
    exact ⟨as, a1, by simpa using a2⟩⟩

theorem rd_elems {w : World} {spare : Nat → Bool} {held : Bool} {m k : Nat} {cs : List Value} (hr : Rd enc P e k R) : ∀ (n o : Nat), cs.length = (o + n) * k →
    (∀ (i : Nat), i < o + n → ∃ y, DataW.trod enc P w 0 spare held m e ((cs.drop (i * k)).take k) = some y) → ∃ as, ArrOf R n as ∧ CR (old w) w [] as (cs.drop (o * k))
  | 0, o, hc, hf => by
    refine ⟨[], rfl, ?_⟩
    rw [List.drop_of_length_le (by simp at hc; omega)]
    exact .nil
  | n + 1, o, hc, hf => by
    obtain ⟨bs, b1, b2⟩ := rd_elems hr n (o + 1) (by rw [hc]; congr 1; omega) (fun i hi => hf i (by omega))
    obtain ⟨y, hy⟩ := hf o (by omega)
    have h1 : (o + (n + 1)) * k = o * k + (n * k + k) := by rw [Nat.add_mul, Nat.add_mul, Nat.one_mul]
    have h2 : (o + 1) * k = o * k + k := by rw [Nat.add_mul, Nat.one_mul]
    obtain ⟨as, a1, a2⟩ := hr.2 w spare held m _ y hy (by rw [List.length_take, List.length_drop, hc, h1]; omega)
    refine ⟨as ++ bs, ⟨as, bs, rfl, a1, b1⟩, ?_⟩
    have : cs.drop (o * k) = (cs.drop (o * k)).take k ++ cs.drop ((o + 1) * k) := by rw [h2, ← List.drop_drop, List.take_append_drop]
    rw [this]
    exact a2.append b2

theorem rd_array {k : Nat} (ht : P.underlying t = some (.array n e)) (hc : P.cellsOf t = n * k) (hr : Rd enc P e k R) : Rd enc P t (n * k) (ArrOf R n) :=
  ⟨hc, fun w spare held fuel cs y h hcl => by
    obtain ⟨xs, m, rfl, _, _, hxs, hf⟩ := DataW.trod_array ht h
    rw [hr.1] at hf
    obtain ⟨as, a1, a2⟩ := rd_elems (w := w) (spare := spare) (held := held) (m := m) (cs := cs) hr n 0 (by simpa using hcl) (fun i hi => by
      have hlt : i < xs.length := by omega
      exact ⟨xs[i], by rw [hf i (by omega), List.getElem?_eq_getElem hlt]⟩)
    exact ⟨as, a1, by simpa using a2⟩⟩

/-- A slice of structs or arrays. -/
theorem rd_sliceA {k : Nat} (ht : P.underlying t = some (.slice e)) (hc : P.cellsOf t = 1) (hk : 0 < k) (hr : Rd enc P e k R) :
    Rd enc P t 1 (fun as => ∃ es, as = [.fsl k es] ∧ (∀ a ∈ es, ∃ l, a = .agg l ∧ R l) ∧ es.length ≤ maxLen) :=
  ⟨hc, fun w spare held fuel cs y h hcl => by
    obtain ⟨v, es, rfl, hv, he, hm⟩ := slice_of_trod ht hr.1 hk (fun a => ∃ l, a = .agg l ∧ R l) (fun fuel cs y h hl => by
      obtain ⟨as, a1, a2⟩ := hr.2 w spare held fuel cs y h hl
      exact ⟨.agg as, ⟨as, rfl, a1⟩, by rw [AV.cells_agg, ← a2.length, hl], a2⟩) h
    exact ⟨[.fsl k es], ⟨es, rfl, he, hm⟩, .cons hv .nil⟩⟩
/-- A slice of elements of one cell. -/
theorem rd_slice1 (ht : P.underlying t = some (.slice e)) (hc : P.cellsOf t = 1) (hr : Rd enc P e 1 R) (h1 : ∀ as, R as → ∃ a, as = [a] ∧ a.cells = [a]) :
    Rd enc P t 1 (fun as => ∃ es, as = [.fsl 1 es] ∧ (∀ a ∈ es, R [a]) ∧ es.length ≤ maxLen) :=
  ⟨hc, fun w spare held fuel cs y h hcl => by
    obtain ⟨v, es, rfl, hv, he, hm⟩ := slice_of_trod ht hr.1 (by decide) (fun a => R [a]) (fun fuel cs y h hl => by
      obtain ⟨as, a1, a2⟩ := hr.2 w spare held fuel cs y h hl
      obtain ⟨a, rfl, ha⟩ := h1 as a1
      exact ⟨a, a1, by rw [ha]; rfl, by rw [ha]; exact a2⟩) h
    exact ⟨[.fsl 1 es], ⟨es, rfl, he, hm⟩, .cons hv .nil⟩⟩

/-- An argument that is a struct or an array. -/
theorem arg_agg {w : World} {spare : Nat → Bool} {held : Bool} {v : Value} {d : DataW H} {p : List MemPlace} {base : Nat} (hr : Rd enc P t n R) (ht : (∃ fs, P.underlying t = some (.struct fs)) ∨ ∃ m e, P.underlying t = some (.array m e))
    (hv : Value.okWide P w .any base t v) (h : DataW.Trod enc P w 0 spare held t v d p) : ∃ as, R as ∧ VR (old w) w [] (.agg as) v := by
  obtain ⟨⟨cs⟩, rfl, hs⟩ : ∃ cs : Array Value, v = .agg cs ∧ cs.size = P.cellsOf t := by
    unfold Value.okWide at hv
    rcases ht with ⟨fs, ht⟩ | ⟨m, e, ht⟩ <;> rw [ht] at hv <;> obtain ⟨cs, h1, h2, _⟩ := hv <;> exact ⟨cs, h1, h2⟩
  obtain ⟨fuel, h⟩ := h
  have h' : DataW.trod enc P w 0 spare held fuel t cs = some (d, p) := h
  obtain ⟨as, a1, a2⟩ := hr.2 w spare held fuel cs _ h' (by rw [← hr.1]; exact hs)
  exact ⟨as, a1, .agg a2⟩
/-- An argument of one cell. -/
theorem arg_one {w : World} {spare : Nat → Bool} {held : Bool} {v : Value} {d : DataW H} {p : List MemPlace} (hr : Rd enc P t 1 R) (hv : ∀ cs, v ≠ .agg cs) (h : DataW.Trod enc P w 0 spare held t v d p) : ∃ a, R [a] ∧ VR (old w) w [] a v := by
  obtain ⟨fuel, h⟩ := h
  have hc : v.cells.toList = [v] := by
    unfold Value.cells
    split
    · exact absurd rfl (hv _)
    · rfl
  rw [hc] at h
  obtain ⟨as, a1, a2⟩ := hr.2 w spare held fuel [v] _ h rfl
  cases a2 with
  | cons h1 h2 => cases h2; exact ⟨_, a1, h1⟩
theorem arg_slice {w : World} {spare : Nat → Bool} {held : Bool} {v : Value} {d : DataW H} {p : List MemPlace} {base : Nat} (hr : Rd enc P t 1 R) (ht : ∃ e, P.underlying t = some (.slice e)) (hv : Value.okWide P w .any base t v) (h : DataW.Trod enc P w 0 spare held t v d p) :
    ∃ a, R [a] ∧ VR (old w) w [] a v := by
  obtain ⟨e, ht⟩ := ht
  obtain ⟨_, _, _, rfl⟩ := okWide_slice ht hv
  exact arg_one hr (fun cs h => by cases h) h

theorem wf_u8 {x : Int} (h : (Lit.int .u8 x).wf = true) : 0 ≤ x ∧ x < 256 := by
  simp [Lit.wf, IntKind.min, IntKind.max, IntKind.signed, IntKind.bits] at h
  exact ⟨by omega, by omega⟩
theorem wf_u16 {x : Int} (h : (Lit.int .u16 x).wf = true) : 0 ≤ x ∧ x < 65536 := by
  simp [Lit.wf, IntKind.min, IntKind.max, IntKind.signed, IntKind.bits] at h
  exact ⟨by omega, by omega⟩
theorem wf_u32 {x : Int} (h : (Lit.int .u32 x).wf = true) : 0 ≤ x ∧ x < 4294967296 := by
  simp [Lit.wf, IntKind.min, IntKind.max, IntKind.signed, IntKind.bits] at h
  exact ⟨by omega, by omega⟩
theorem wf_i64 {x : Int} (h : (Lit.int .i64 x).wf = true) : -9223372036854775808 ≤ x ∧ x < 9223372036854775808 := by
  simp [Lit.wf, IntKind.min, IntKind.max, IntKind.signed, IntKind.bits] at h
  exact ⟨by omega, by omega⟩

theorem list_of' {α : Type} {av : α → AV} {Q : α → Prop} : ∀ {es : List AV}, (∀ a ∈ es, ∃ f, a = av f ∧ Q f) → ∃ l : List α, es = l.map av ∧ ∀ f ∈ l, Q f
  | [], _ => ⟨[], rfl, by simp⟩
  | a :: es, h => by
    obtain ⟨f, rfl, hq⟩ := h a (by simp)
    obtain ⟨l, rfl, hl⟩ := list_of' (es := es) (fun b hb => h b (by simp [hb]))
    refine ⟨f :: l, rfl, fun g hg => ?_⟩
    rcases List.mem_cons.1 hg with rfl | hg
    · exact hq
    · exact hl g hg
end
end Go.Proofs.YtjmgnodeohmboaaDoor.Am
