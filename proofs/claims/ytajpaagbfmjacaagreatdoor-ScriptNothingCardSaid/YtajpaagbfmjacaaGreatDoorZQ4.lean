/-
  (AmK and AmL in one.) A REGION THAT DRAWS ITS ORDER, shown once: what comes behind it is a predicate of its own.
-/
import Derived.Test.YtajpaagbfmjacaaGreatDoorZQ3
import Derived.OpenShut
import Derived.IntWalk
namespace Go.Proofs.YtajpaagbfmjacaaGreatDoor.Am
set_option linter.unusedSimpArgs false
set_option linter.unusedVariables false
open Go Go.Proofs
variable {Γ : Env} {N : Nat} {Q : Post} {ts : Tm} {m : List Blk}
theorem into_mono {keep : List Nat} {J K : Tm → List Blk → Prop} (hk : ∀ ts m, J ts m → K ts m) (h : into N keep J ts m) : into N keep K ts m := by
  obtain ⟨ad, ids, h⟩ := h
  refine ⟨ad, ids, ?_⟩
  cases ha : adoptA ad ts m with
  | none => rw [ha] at h; exact h.elim
  | some p =>
    rw [ha] at h
    exact ⟨h.1, h.2.1, hk _ _ h.2.2⟩
theorem wp_drawsR {p : Plan} {pre : List (List Nat)} {ops : List AOper} {ks keep : List Nat} {c : ACode} (R : Tm → List Blk → Prop)
    (h : ∀ W : Tm → List Blk → Prop, (∀ ts m, into N keep R (tkill ks ts) m → W ts m) → wpA Γ N (.draws p pre ops) (AExit.thenA W Q) ts m)
    (hr : ∀ ts m, R ts m → wpA Γ N c Q ts m) : wpA Γ N (.seq (.draws p pre ops) (.drop ks (.pack keep c))) Q ts m := h _ fun _ _ hh => into_mono hr hh
theorem wp_drawsRS {p : Plan} {pre : List (List Nat)} {ops : List AOper} {ks keep : List Nat} {c d : ACode} (R : Tm → List Blk → Prop)
    (h : ∀ W : Tm → List Blk → Prop, (∀ ts m, into N keep R (tkill ks ts) m → W ts m) → wpA Γ N (.draws p pre ops) (AExit.thenA W Q) ts m)
    (hr : ∀ ts m, R ts m → wpA Γ N (.seq c d) Q ts m) : wpA Γ N (.seq (.draws p pre ops) (.seq (.drop ks (.pack keep c)) d)) Q ts m := h _ fun _ _ hh => into_mono hr hh
/-- The same, where something else goes ahead of the region. -/
theorem wp_thenDrawsR {a : ACode} {p : Plan} {pre : List (List Nat)} {ops : List AOper} {ks keep : List Nat} {c : ACode} (R : Tm → List Blk → Prop)
    (h : ∀ W : Tm → List Blk → Prop, (∀ ts m, into N keep R (tkill ks ts) m → W ts m) → wpA Γ N (.seq a (.draws p pre ops)) (AExit.thenA W Q) ts m)
    (hr : ∀ ts m, R ts m → wpA Γ N c Q ts m) : wpA Γ N (.seq a (.seq (.draws p pre ops) (.drop ks (.pack keep c)))) Q ts m := by
  have h1 := h _ fun _ _ hh => into_mono hr hh
  have e : ∀ (K W : Tm → List Blk → Prop), AExit.thenA K (AExit.thenA W Q) = AExit.thenA K Q := fun K W => by funext x; cases x <;> rfl
  have h2 : wpA Γ N a (AExit.thenA (wpA Γ N (.draws p pre ops) (AExit.thenA (fun ts m => into N keep (wpA Γ N c Q) (tkill ks ts) m) Q)) (AExit.thenA (fun ts m => into N keep (wpA Γ N c Q) (tkill ks ts) m) Q)) ts m := h1
  rw [e] at h2
  exact h2
/-- I k is the state with at most k rounds to go; R what holds when the loop is left. -/
theorem wp_loopR {keep : List Nat} {b c : ACode} {i : Nat} (R : Tm → List Blk → Prop) (I : Nat → Tm → List Blk → Prop) (n : Nat) (h0 : into N keep (I n) ts m)
    (h1 : ∀ W : Tm → List Blk → Prop, (∀ ts m, R ts m → W ts m) → ∀ n ts m, I n ts m → wpA Γ N b (AExit.thenA (fun ts' m' => ∃ k, k < n ∧ into N keep (I k) ts' m') (AExit.inBlk i (AExit.thenA W Q))) ts m)
    (hr : ∀ ts m, R ts m → wpA Γ N c Q ts m) : wpA Γ N (.loop keep b) (AExit.inBlk i (AExit.thenA (wpA Γ N c Q) Q)) ts m := ⟨I, n, h0, h1 _ hr⟩
end Go.Proofs.YtajpaagbfmjacaaGreatDoor.Am
/-
  THE ABSTRACT MACHINE: arguments as they are read, by their types. No program is named here.
-/
namespace Go.Proofs.YtajpaagbfmjacaaGreatDoor.Am
set_option linter.unusedSimpArgs false
set_option linter.unusedVariables false
open Go Go.RowKit Go.ChangeShapes Go.WideShapes

/-- Arguments of a type have so many cells, read as a relation tells. -/
def Rd {H : Type} (enc : TypeId × Value → H) (P : Program) (t : TypeId) (n : Nat) (R : List AV → Prop) : Prop :=
  P.cellsOf t = n ∧ ∀ (w : World) (spare : Nat → Bool) (held : Bool) (fuel : Nat) (cs : List Value) (y : DataW H × List MemPlace),
    DataW.trod enc P w 0 spare held fuel t cs = some y → cs.length = n → ∃ as, R as ∧ CR (old w) w [] as cs

/-- One behind the other. -/
def Cat : List (TypeId × Nat × (List AV → Prop)) → List AV → Prop
  | [], as => as = []
  | f :: r, as => ∃ a b, as = a ++ b ∧ f.2.2 a ∧ Cat r b
def ArrOf (R : List AV → Prop) : Nat → List AV → Prop
  | 0, as => as = []
  | k + 1, as => ∃ a b, as = a ++ b ∧ R a ∧ ArrOf R k b
def lay (P : Program) : List Field → List (TypeId × Nat) → Nat → Bool
  | [], [], _ => true
  | f :: fs, (t, n) :: r, o => f.type == t && f.offset == o && P.cellsOf t == n && lay P fs r (o + n)
  | _, _, _ => false

section
variable {H : Type} {enc : TypeId × Value → H} {P : Program} {t e : TypeId} {n : Nat} {R : List AV → Prop}

theorem rd_int {k : IntKind} (ht : P.underlying t = some (.int k)) (hc : P.cellsOf t = 1) : Rd enc P t 1 (fun as => ∃ n, as = [.v (.int k n)] ∧ (Lit.int k n).wf = true) :=
  ⟨hc, fun w spare held fuel cs y h _ => by
    obtain ⟨n, rfl, _, hw⟩ := DataW.trod_int ht h
    exact ⟨_, ⟨n, rfl, hw⟩, .cons (.v _) .nil⟩⟩
theorem rd_string (ht : P.underlying t = some .string) (hc : P.cellsOf t = 1) : Rd enc P t 1 (fun as => ∃ s, as = [.v (.string s)]) :=
  ⟨hc, fun w spare held fuel cs y h _ => by
    obtain ⟨n, rfl, _, hw⟩ := DataW.trod_string ht h
    exact ⟨_, ⟨n, rfl⟩, .cons (.v _) .nil⟩⟩
theorem rd_bool (ht : P.underlying t = some .bool) (hc : P.cellsOf t = 1) : Rd enc P t 1 (fun as => ∃ b, as = [.v (.bool b)]) :=
  ⟨hc, fun w spare held fuel cs y h _ => by
    obtain ⟨b, rfl, _⟩ := DataW.trod_bool ht h
    exact ⟨_, ⟨b, rfl⟩, .cons (.v _) .nil⟩⟩

theorem rd_fields {w : World} {spare : Nat → Bool} {held : Bool} {m : Nat} {cs : List Value} : ∀ (Rs : List (TypeId × Nat × (List AV → Prop))) (fs : List Field) (o : Nat),
    lay P fs (Rs.map fun r => (r.1, r.2.1)) o = true → (∀ r ∈ Rs, Rd enc P r.1 r.2.1 r.2.2) → cs.length = o + (Rs.map fun r => r.2.1).sum →
    (∀ (i : Nat) (f : Field), fs[i]? = some f → ∃ y, DataW.trod enc P w 0 spare held m f.type ((cs.drop f.offset).take (P.cellsOf f.type)) = some y) → ∃ as, Cat Rs as ∧ CR (old w) w [] as (cs.drop o)
  | [], fs, o, hl, hr, hc, hf => by
    refine ⟨[], rfl, ?_⟩
    rw [List.drop_of_length_le (by simp at hc; omega)]
    exact .nil
  | r :: Rs, [], o, hl, hr, hc, hf => by simp [lay] at hl
  | r :: Rs, f :: fs, o, hl, hr, hc, hf => by
    simp only [List.map_cons, lay, Bool.and_eq_true, beq_iff_eq] at hl
    obtain ⟨⟨⟨e1, e2⟩, e3⟩, e4⟩ := hl
    simp only [List.map_cons, List.sum_cons] at hc
    obtain ⟨bs, b1, b2⟩ := rd_fields Rs fs (o + r.2.1) e4 (fun x hx => hr x (List.mem_cons_of_mem _ hx)) (by omega) (fun i g hg => hf (i + 1) g (by simpa using hg))
    obtain ⟨y, hy⟩ := hf 0 f rfl
    rw [e1, e2, e3] at hy
    obtain ⟨as, a1, a2⟩ := (hr r (by simp)).2 w spare held m _ y hy (by rw [List.length_take, List.length_drop]; omega)
    refine ⟨as ++ bs, ⟨as, bs, rfl, a1, b1⟩, ?_⟩
    have : cs.drop o = (cs.drop o).take r.2.1 ++ cs.drop (o + r.2.1) := by rw [← List.drop_drop, List.take_append_drop]
    rw [this]
    exact a2.append b2

theorem rd_struct {fs : Array Field} (Rs : List (TypeId × Nat × (List AV → Prop))) (ht : P.underlying t = some (.struct fs)) (hc : P.cellsOf t = n) (hn : (Rs.map fun r => r.2.1).sum = n)
    (hl : lay P fs.toList (Rs.map fun r => (r.1, r.2.1)) 0 = true) (hr : ∀ r ∈ Rs, Rd enc P r.1 r.2.1 r.2.2) : Rd enc P t n (Cat Rs) :=
  ⟨hc, fun w spare held fuel cs y h hcl => by
    obtain ⟨xs, m, rfl, _, _, hxs, hf⟩ := DataW.trod_struct ht h
    obtain ⟨as, a1, a2⟩ := rd_fields (w := w) (spare := spare) (held := held) (m := m) (cs := cs) Rs fs.toList 0 hl hr (by omega) (fun i f hi => by
      have hi' : fs[i]? = some f := by simpa using hi
      have hlt : i < xs.length := by rw [hxs]; exact (Array.getElem?_eq_some_iff.1 hi').1
      exact ⟨xs[i], by rw [hf i f hi', List.getElem?_eq_getElem hlt]⟩)
    exact ⟨as, a1, by simpa using a2⟩⟩

theorem rd_elems {w : World} {spare : Nat → Bool} {held : Bool} {m k : Nat} {cs : List Value} (hr : Rd enc P e k R) : ∀ (n o : Nat), cs.length = (o + n) * k →
    (∀ (i : Nat), i < o + n → ∃ y, DataW.trod enc P w 0 spare held m e ((cs.drop (i * k)).take k) = some y) → ∃ as, ArrOf R n as ∧ CR (old w) w [] as (cs.drop (o * k))
  | 0, o, hc, hf => by
    refine ⟨[], rfl, ?_⟩
    rw [List.drop_of_length_le (by simp at hc; omega)]
    exact .nil
  | n + 1, o, hc, hf => by
    obtain ⟨bs, b1, b2⟩ := rd_elems hr n (o + 1) (by rw [hc]; congr 1; omega) (fun i hi => hf i (by omega))
    obtain ⟨y, hy⟩ := hf o (by omega)
    have h1 : (o + (n + 1)) * k = o * k + (n * k + k) := by rw [Nat.add_mul, Nat.add_mul, Nat.one_mul]
    have h2 : (o + 1) * k = o * k + k := by rw [Nat.add_mul, Nat.one_mul]
    obtain ⟨as, a1, a2⟩ := hr.2 w spare held m _ y hy (by rw [List.length_take, List.length_drop, hc, h1]; omega)
    refine ⟨as ++ bs, ⟨as, bs, rfl, a1, b1⟩, ?_⟩
    have : cs.drop (o * k) = (cs.drop (o * k)).take k ++ cs.drop ((o + 1) * k) := by rw [h2, ← List.drop_drop, List.take_append_drop]
    rw [this]
    exact a2.append b2

theorem rd_array {k : Nat} (ht : P.underlying t = some (.array n e)) (hc : P.cellsOf t = n * k) (hr : Rd enc P e k R) : Rd enc P t (n * k) (ArrOf R n) :=
  ⟨hc, fun w spare held fuel cs y h hcl => by
    obtain ⟨xs, m, rfl, _, _, hxs, hf⟩ := DataW.trod_array ht h
    rw [hr.1] at hf
    obtain ⟨as, a1, a2⟩ := rd_elems (w := w) (spare := spare) (held := held) (m := m) (cs := cs) hr n 0 (by simpa using hcl) (fun i hi => by
      have hlt : i < xs.length := by omega
      exact ⟨xs[i], by rw [hf i (by omega), List.getElem?_eq_getElem hlt]⟩)
    exact ⟨as, a1, by simpa using a2⟩⟩

/-- A slice of structs or arrays. -/
theorem rd_sliceA {k : Nat} (ht : P.underlying t = some (.slice e)) (hc : P.cellsOf t = 1) (hk : 0 < k) (hr : Rd enc P e k R) :
    Rd enc P t 1 (fun as => ∃ es, as = [.fsl k es] ∧ (∀ a ∈ es, ∃ l, a = .agg l ∧ R l) ∧ es.length ≤ maxLen) :=
  ⟨hc, fun w spare held fuel cs y h hcl => by
    obtain ⟨v, es, rfl, hv, he, hm⟩ := slice_of_trod ht hr.1 hk (fun a => ∃ l, a = .agg l ∧ R l) (fun fuel cs y h hl => by
      obtain ⟨as, a1, a2⟩ := hr.2 w spare held fuel cs y h hl
      exact ⟨.agg as, ⟨as, rfl, a1⟩, by rw [AV.cells_agg, ← a2.length, hl], a2⟩) h
    exact ⟨[.fsl k es], ⟨es, rfl, he, hm⟩, .cons hv .nil⟩⟩
/-- A slice of elements of one cell. -/
theorem rd_slice1 (ht : P.underlying t = some (.slice e)) (hc : P.cellsOf t = 1) (hr : Rd enc P e 1 R) (h1 : ∀ as, R as → ∃ a, as = [a] ∧ a.cells = [a]) :
    Rd enc P t 1 (fun as => ∃ es, as = [.fsl 1 es] ∧ (∀ a ∈ es, R [a]) ∧ es.length ≤ maxLen) :=
  ⟨hc, fun w spare held fuel cs y h hcl => by
    obtain ⟨v, es, rfl, hv, he, hm⟩ := slice_of_trod ht hr.1 (by decide) (fun a => R [a]) (fun fuel cs y h hl => by
      obtain ⟨as, a1, a2⟩ := hr.2 w spare held fuel cs y h hl
      obtain ⟨a, rfl, ha⟩ := h1 as a1
      exact ⟨a, a1, by rw [ha]; rfl, by rw [ha]; exact a2⟩) h
    exact ⟨[.fsl 1 es], ⟨es, rfl, he, hm⟩, .cons hv .nil⟩⟩

/-- An argument that is a struct or an array. -/
theorem arg_agg {w : World} {spare : Nat → Bool} {held : Bool} {v : Value} {d : DataW H} {p : List MemPlace} {base : Nat} (hr : Rd enc P t n R) (ht : (∃ fs, P.underlying t = some (.struct fs)) ∨ ∃ m e, P.underlying t = some (.array m e))
    (hv : Value.okWide P w .any base t v) (h : DataW.Trod enc P w 0 spare held t v d p) : ∃ as, R as ∧ VR (old w) w [] (.agg as) v := by
  obtain ⟨⟨cs⟩, rfl, hs⟩ : ∃ cs : Array Value, v = .agg cs ∧ cs.size = P.cellsOf t := by
    unfold Value.okWide at hv
    rcases ht with ⟨fs, ht⟩ | ⟨m, e, ht⟩ <;> rw [ht] at hv <;> obtain ⟨cs, h1, h2, _⟩ := hv <;> exact ⟨cs, h1, h2⟩
  obtain ⟨fuel, h⟩ := h
  have h' : DataW.trod enc P w 0 spare held fuel t cs = some (d, p) := h
  obtain ⟨as, a1, a2⟩ := hr.2 w spare held fuel cs _ h' (by rw [← hr.1]; exact hs)
  exact ⟨as, a1, .agg a2⟩
/-- An argument of one cell. -/
theorem arg_one {w : World} {spare : Nat → Bool} {held : Bool} {v : Value} {d : DataW H} {p : List MemPlace} (hr : Rd enc P t 1 R) (hv : ∀ cs, v ≠ .agg cs) (h : DataW.Trod enc P w 0 spare held t v d p) : ∃ a, R [a] ∧ VR (old w) w [] a v := by
  obtain ⟨fuel, h⟩ := h
  have hc : v.cells.toList = [v] := by
    unfold Value.cells
    split
    · exact absurd rfl (hv _)
    · rfl
  rw [hc] at h
  obtain ⟨as, a1, a2⟩ := hr.2 w spare held fuel [v] _ h rfl
  cases a2 with
  | cons h1 h2 => cases h2; exact ⟨_, a1, h1⟩
theorem arg_slice {w : World} {spare : Nat → Bool} {held : Bool} {v : Value} {d : DataW H} {p : List MemPlace} {base : Nat} (hr : Rd enc P t 1 R) (ht : ∃ e, P.underlying t = some (.slice e)) (hv : Value.okWide P w .any base t v) (h : DataW.Trod enc P w 0 spare held t v d p) :
    ∃ a, R [a] ∧ VR (old w) w [] a v := by
  obtain ⟨e, ht⟩ := ht
  obtain ⟨_, _, _, rfl⟩ := okWide_slice ht hv
  exact arg_one hr (fun cs h => by cases h) h

theorem wf_u8 {x : Int} (h : (Lit.int .u8 x).wf = true) : 0 ≤ x ∧ x < 256 := by
  simp [Lit.wf, IntKind.min, IntKind.max, IntKind.signed, IntKind.bits] at h
  exact ⟨by omega, by omega⟩
theorem wf_u16 {x : Int} (h : (Lit.int .u16 x).wf = true) : 0 ≤ x ∧ x < 65536 := by
  simp [Lit.wf, IntKind.min, IntKind.max, IntKind.signed, IntKind.bits] at h
  exact ⟨by omega, by omega⟩
theorem wf_u32 {x : Int} (h : (Lit.int .u32 x).wf = true) : 0 ≤ x ∧ x < 4294967296 := by
  simp [Lit.wf, IntKind.min, IntKind.max, IntKind.signed, IntKind.bits] at h
  exact ⟨by omega, by omega⟩
theorem wf_i64 {x : Int} (h : (Lit.int .i64 x).wf = true) : -9223372036854775808 ≤ x ∧ x < 9223372036854775808 := by
  simp [Lit.wf, IntKind.min, IntKind.max, IntKind.signed, IntKind.bits] at h
  exact ⟨by omega, by omega⟩

theorem list_of' {α : Type} {av : α → AV} {Q : α → Prop} : ∀ {es : List AV}, (∀ a ∈ es, ∃ f, a = av f ∧ Q f) → ∃ l : List α, es = l.map av ∧ ∀ f ∈ l, Q f
  | [], _ => ⟨[], rfl, by simp⟩
  | a :: es, h => by
    obtain ⟨f, rfl, hq⟩ := h a (by simp)
    obtain ⟨l, rfl, hl⟩ := list_of' (es := es) (fun b hb => h b (by simp [hb]))
    refine ⟨f :: l, rfl, fun g hg => ?_⟩
    rcases List.mem_cons.1 hg with rfl | hg
    · exact hq
    · exact hl g hg
end
end Go.Proofs.YtajpaagbfmjacaaGreatDoor.Am
/-
  CONTRACTS BY READERS: each argument is read back by what it stands for. No program is named here.
-/
namespace Go.Proofs.YtajpaagbfmjacaaGreatDoor.Am
set_option linter.unusedSimpArgs false
set_option linter.unusedVariables false
open Go

open Classical in
/-- What an argument stands for. -/
noncomputable def un {α : Type} (av : α → AV) (a : AV) : Option α := if h : ∃ x, av x = a then some h.choose else none
theorem un_av {α : Type} {av : α → AV} (inj : ∀ x y, av x = av y → x = y) (x : α) : un av (av x) = some x := by
  unfold un
  have h : ∃ y, av y = av x := ⟨x, rfl⟩
  rw [dif_pos h, inj _ _ h.choose_spec]
theorem un_some {α : Type} {av : α → AV} {a : AV} {x : α} (h : un av a = some x) : a = av x := by
  unfold un at h
  split at h
  · rename_i hx; cases h; exact hx.choose_spec.symm
  · cases h

def avI (k : IntKind) (n : Int) : AV := .v (.int k n)
def avB (b : Bool) : AV := .v (.bool b)
def avS (s : ByteArray) : AV := .v (.string s)
theorem un_i (k : IntKind) (n : Int) : un (avI k) (.v (.int k n)) = some n := un_av (av := avI k) (fun x y h => by simpa [avI] using h) n
theorem un_b (b : Bool) : un avB (.v (.bool b)) = some b := un_av (av := avB) (fun x y h => by simpa [avB] using h) b
theorem un_s (s : ByteArray) : un avS (.v (.string s)) = some s := un_av (av := avS) (fun x y h => by simpa [avS] using h) s

section
variable {A B C D E G : Type}
open Classical
noncomputable def sp1 (a : A → AV) (p : A → Prop) (g : A → AV) : Spec
  | [x], [] => match un a x with
    | some x => if p x then some (.ret (g x), []) else none
    | _ => none
  | _, _ => none
noncomputable def sp2 (a : A → AV) (b : B → AV) (p : A → B → Prop) (g : A → B → AV) : Spec
  | [x, y], [] => match un a x, un b y with
    | some x, some y => if p x y then some (.ret (g x y), []) else none
    | _, _ => none
  | _, _ => none
noncomputable def sp3 (a : A → AV) (b : B → AV) (c : C → AV) (p : A → B → C → Prop) (g : A → B → C → AV) : Spec
  | [x, y, z], [] => match un a x, un b y, un c z with
    | some x, some y, some z => if p x y z then some (.ret (g x y z), []) else none
    | _, _, _ => none
  | _, _ => none
noncomputable def sp4 (a : A → AV) (b : B → AV) (c : C → AV) (d : D → AV) (p : A → B → C → D → Prop) (g : A → B → C → D → AV) : Spec
  | [x, y, z, u], [] => match un a x, un b y, un c z, un d u with
    | some x, some y, some z, some u => if p x y z u then some (.ret (g x y z u), []) else none
    | _, _, _, _ => none
  | _, _ => none
noncomputable def sp5 (a : A → AV) (b : B → AV) (c : C → AV) (d : D → AV) (e : E → AV) (p : A → B → C → D → E → Prop) (g : A → B → C → D → E → AV) : Spec
  | [x, y, z, u, v], [] => match un a x, un b y, un c z, un d u, un e v with
    | some x, some y, some z, some u, some v => if p x y z u v then some (.ret (g x y z u v), []) else none
    | _, _, _, _, _ => none
  | _, _ => none
noncomputable def sp6 (a : A → AV) (b : B → AV) (c : C → AV) (d : D → AV) (e : E → AV) (f : G → AV) (p : A → B → C → D → E → G → Prop) (g : A → B → C → D → E → G → AV) : Spec
  | [x, y, z, u, v, w], [] => match un a x, un b y, un c z, un d u, un e v, un f w with
    | some x, some y, some z, some u, some v, some w => if p x y z u v w then some (.ret (g x y z u v w), []) else none
    | _, _, _, _, _, _ => none
  | _, _ => none

variable {Γ : Env} {ac : ACode} {rs : List ARes} {a : A → AV} {b : B → AV} {c : C → AV} {d : D → AV} {e : E → AV} {f : G → AV}
theorem wb_sp1 {p : A → Prop} {g : A → AV} (h : ∀ x, p x → wpA Γ 0 ac (finQ 0 rs (.ret (g x)) []) (entry 0 [a x]) []) : WB Γ ac rs (sp1 a p g) := by
  intro args mem r mem1 hs
  unfold sp1 at hs
  split at hs
  case h_2 => cases hs
  split at hs
  case h_2 => cases hs
  rename_i x h1
  split at hs
  · rename_i hp; cases hs; rw [un_some h1]; exact h x hp
  · cases hs
theorem wb_sp2 {p : A → B → Prop} {g : A → B → AV} (h : ∀ x y, p x y → wpA Γ 0 ac (finQ 0 rs (.ret (g x y)) []) (entry 0 [a x, b y]) []) : WB Γ ac rs (sp2 a b p g) := by
  intro args mem r mem1 hs
  unfold sp2 at hs
  split at hs
  case h_2 => cases hs
  split at hs
  case h_2 => cases hs
  rename_i x y h1 h2
  split at hs
  · rename_i hp; cases hs; rw [un_some h1, un_some h2]; exact h x y hp
  · cases hs
theorem wb_sp3 {p : A → B → C → Prop} {g : A → B → C → AV} (h : ∀ x y z, p x y z → wpA Γ 0 ac (finQ 0 rs (.ret (g x y z)) []) (entry 0 [a x, b y, c z]) []) : WB Γ ac rs (sp3 a b c p g) := by
  intro args mem r mem1 hs
  unfold sp3 at hs
  split at hs
  case h_2 => cases hs
  split at hs
  case h_2 => cases hs
  rename_i x y z h1 h2 h3
  split at hs
  · rename_i hp; cases hs; rw [un_some h1, un_some h2, un_some h3]; exact h x y z hp
  · cases hs
theorem wb_sp4 {p : A → B → C → D → Prop} {g : A → B → C → D → AV} (h : ∀ x y z u, p x y z u → wpA Γ 0 ac (finQ 0 rs (.ret (g x y z u)) []) (entry 0 [a x, b y, c z, d u]) []) : WB Γ ac rs (sp4 a b c d p g) := by
  intro args mem r mem1 hs
  unfold sp4 at hs
  split at hs
  case h_2 => cases hs
  split at hs
  case h_2 => cases hs
  rename_i x y z u h1 h2 h3 h4
  split at hs
  · rename_i hp; cases hs; rw [un_some h1, un_some h2, un_some h3, un_some h4]; exact h x y z u hp
  · cases hs
theorem wb_sp5 {p : A → B → C → D → E → Prop} {g : A → B → C → D → E → AV} (h : ∀ x y z u v, p x y z u v → wpA Γ 0 ac (finQ 0 rs (.ret (g x y z u v)) []) (entry 0 [a x, b y, c z, d u, e v]) []) : WB Γ ac rs (sp5 a b c d e p g) := by
  intro args mem r mem1 hs
  unfold sp5 at hs
  split at hs
  case h_2 => cases hs
  split at hs
  case h_2 => cases hs
  rename_i x y z u v h1 h2 h3 h4 h5
  split at hs
  · rename_i hp; cases hs; rw [un_some h1, un_some h2, un_some h3, un_some h4, un_some h5]; exact h x y z u v hp
  · cases hs
theorem wb_sp6 {p : A → B → C → D → E → G → Prop} {g : A → B → C → D → E → G → AV} (h : ∀ x y z u v w, p x y z u v w → wpA Γ 0 ac (finQ 0 rs (.ret (g x y z u v w)) []) (entry 0 [a x, b y, c z, d u, e v, f w]) []) : WB Γ ac rs (sp6 a b c d e f p g) := by
  intro args mem r mem1 hs
  unfold sp6 at hs
  split at hs
  case h_2 => cases hs
  split at hs
  case h_2 => cases hs
  rename_i x y z u v w h1 h2 h3 h4 h5 h6
  split at hs
  · rename_i hp; cases hs; rw [un_some h1, un_some h2, un_some h3, un_some h4, un_some h5, un_some h6]; exact h x y z u v w hp
  · cases hs
end
attribute [simp] un_i un_b un_s sp1 sp2 sp3 sp4 sp5 sp6

/-! ### One step of an evaluation, whichever it is (stm: not into a region that draws its order) -/
theorem stp {P R : Prop} (r : R) (h : R → P := by
  first
  | exact wp_regionS | exact wp_region | exact wp_drawsS | exact wp_draws | exact seg_fin | exact seg_pan | exact wp_assoc | exact wp_skipS | exact wp_retS | exact wp_exitS
  | exact fun k => wp_dropS (wp_eqT (by simp -dsimp -implicitDefEqProofs; rfl) k) | exact fun k => wp_sealS (by simp -dsimp -implicitDefEqProofs; rfl) k | exact fun k => wp_seal (by simp -dsimp -implicitDefEqProofs; rfl) k
  | exact wp_pack_out | exact wp_blockS | exact wp_skip' | exact wp_ret' | exact wp_exit' | exact fun k => wp_drop (wp_eqT (by simp -dsimp -implicitDefEqProofs; rfl) k) | exact wp_block'
  | exact fun k => wp_condVS (by simp -dsimp -implicitDefEqProofs; rfl) k | exact fun k => wp_condV (by simp -dsimp -implicitDefEqProofs; rfl) k | exact cond_t | exact cond_f
  | exact post_then | exact post_thenE | exact post_thenP | exact post_blkP | exact post_thenR | exact post_blkN | exact post_blkE | exact post_blkF rfl | exact post_blkR) : P := h r
theorem stm {P R : Prop} (r : R) (h : R → P := by
  first
  | exact wp_regionS | exact wp_region | exact seg_fin | exact seg_pan | exact wp_assoc | exact wp_skipS | exact wp_retS | exact wp_exitS
  | exact fun k => wp_dropS (wp_eqT (by simp -dsimp -implicitDefEqProofs; rfl) k) | exact fun k => wp_sealS (by simp -dsimp -implicitDefEqProofs; rfl) k | exact fun k => wp_seal (by simp -dsimp -implicitDefEqProofs; rfl) k
  | exact wp_pack_out | exact wp_blockS | exact wp_skip' | exact wp_ret' | exact wp_exit' | exact fun k => wp_drop (wp_eqT (by simp -dsimp -implicitDefEqProofs; rfl) k) | exact wp_block'
  | exact fun k => wp_condVS (by simp -dsimp -implicitDefEqProofs; rfl) k | exact fun k => wp_condV (by simp -dsimp -implicitDefEqProofs; rfl) k | exact cond_t | exact cond_f
  | exact post_then | exact post_thenE | exact post_thenP | exact post_blkP | exact post_thenR | exact post_blkN | exact post_blkE | exact post_blkF rfl | exact post_blkR) : P := h r
end Go.Proofs.YtajpaagbfmjacaaGreatDoor.Am
/-
  BYTES AND NUMBERS, plainly: no program in sight.
-/
namespace Go.Proofs.YtajpaagbfmjacaaGreatDoor.Am
set_option linter.unusedSimpArgs false
set_option linter.unusedVariables false
open Go

/-- The lowest byte of a number. -/
def u8 (n : Nat) : UInt8 := UInt8.ofNat n
theorem u8_toNat (n : Nat) : (u8 n).toNat = n % 256 := by simp [u8, UInt8.toNat_ofNat']

/-- So many bytes of a number, the lowest first. -/
def lowB (n : Nat) : Nat → List UInt8
  | 0 => []
  | k + 1 => u8 n :: lowB (n / 256) k

theorem lowB_length (n : Nat) : ∀ k, (lowB n k).length = k
  | 0 => rfl
  | k + 1 => by simp only [lowB, List.length_cons, lowB_length _ k]

theorem lowB_snoc (n : Nat) : ∀ k, lowB n (k + 1) = lowB n k ++ [u8 (n / 256 ^ k)]
  | 0 => by simp [lowB]
  | k + 1 => by
    rw [lowB, lowB_snoc (n / 256) k, lowB]
    simp only [List.cons_append, Nat.div_div_eq_div_mul, Nat.pow_succ, Nat.mul_comm]

/-- The number of bytes, the lowest first. -/
def leB : List UInt8 → Nat
  | [] => 0
  | b :: l => b.toNat + 256 * leB l

theorem leB_lt : ∀ l : List UInt8, leB l < 256 ^ l.length
  | [] => by simp [leB]
  | b :: l => by
    have h1 := leB_lt l
    have h2 := b.toNat_lt
    simp only [leB, List.length_cons, Nat.pow_succ]
    omega

theorem leB_append : ∀ l m : List UInt8, leB (l ++ m) = leB l + 256 ^ l.length * leB m
  | [], m => by simp [leB]
  | b :: l, m => by
    simp only [List.cons_append, leB, leB_append l m, List.length_cons, Nat.pow_succ, Nat.mul_add]
    rw [show 256 ^ l.length * 256 * leB m = 256 * (256 ^ l.length * leB m) by rw [Nat.mul_comm (256 ^ l.length) 256, Nat.mul_assoc]]
    omega

theorem leB_lowB (n : Nat) : ∀ k, leB (lowB n k) = n % 256 ^ k
  | 0 => by simp [leB, lowB, Nat.mod_one]
  | k + 1 => by
    simp only [lowB, leB, leB_lowB (n / 256) k, Nat.pow_succ]
    have h := u8_toNat n
    rw [h, Nat.mul_comm (256 ^ k) 256, Nat.mod_mul]

theorem lowB_leB : ∀ l : List UInt8, lowB (leB l) l.length = l
  | [] => rfl
  | b :: l => by
    have h2 := b.toNat_lt
    have e1 : (b.toNat + 256 * leB l) / 256 = leB l := by omega
    have e2 : u8 (b.toNat + 256 * leB l) = b := by
      apply UInt8.toNat_inj.1
      rw [u8_toNat]; omega
    simp only [leB, List.length_cons, lowB, e1, e2, lowB_leB l]

/-- How many bytes a number has. -/
def nlen (n : Nat) : Nat := if h : n = 0 then 0 else nlen (n / 256) + 1
termination_by n
decreasing_by omega

theorem nlen_zero : nlen 0 = 0 := by unfold nlen; simp
theorem nlen_pos {n : Nat} (h : n ≠ 0) : nlen n = nlen (n / 256) + 1 := by rw [nlen]; simp [h]

theorem nlen_le (k : Nat) : ∀ n, nlen n ≤ k ↔ n < 256 ^ k := by
  induction k with
  | zero =>
    intro n
    by_cases h : n = 0
    · subst h; simp [nlen_zero]
    · rw [nlen_pos h]; simp; omega
  | succ k ih =>
    intro n
    by_cases h : n = 0
    · subst h; simp [nlen_zero, Nat.pow_pos]
    · rw [nlen_pos h, Nat.succ_le_succ_iff, ih, Nat.pow_succ, Nat.div_lt_iff_lt_mul (by decide)]

theorem nlen_eq {n k : Nat} (h1 : n < 256 ^ (k + 1)) (h2 : 256 ^ k ≤ n) : nlen n = k + 1 := by
  have := (nlen_le (k + 1) n).2 h1
  have h3 : ¬ nlen n ≤ k := by rw [nlen_le]; omega
  omega

theorem nlen_le8 {n : Nat} (h : n < 18446744073709551616) : nlen n ≤ 8 := (nlen_le 8 n).2 h

/-- How many bits a number has. -/
def bl (n : Nat) : Nat := if n = 0 then 0 else n.log2 + 1

theorem bl_le (n k : Nat) : bl n ≤ k ↔ n < 2 ^ k := by
  unfold bl
  split
  · rename_i h; subst h; simp [Nat.two_pow_pos]
  · rename_i h; rw [Nat.add_one_le_iff, Nat.log2_lt h]

theorem bl_nlen (n : Nat) : (bl n + 7) / 8 = nlen n := by
  have key : ∀ k, (bl n + 7) / 8 ≤ k ↔ nlen n ≤ k := fun k => by
    rw [nlen_le, show (256 : Nat) = 2 ^ 8 by rfl, ← Nat.pow_mul, ← bl_le]; omega
  have h1 := (key _).1 (Nat.le_refl _)
  have h2 := (key _).2 (Nat.le_refl (nlen n))
  omega

/-- A number's bytes: how many, and these. -/
def numB (n : Nat) : List UInt8 := u8 (nlen n) :: lowB n (nlen n)

theorem numB_length (n : Nat) : (numB n).length = nlen n + 1 := by simp [numB, lowB_length]

/-! ### Numbers of the machine -/
theorem wrap_u8_nat (n : Int) (h : 0 ≤ n) : IntKind.wrap .u8 n = ((u8 n.toNat).toNat : Int) := by
  rw [IntKind.wrap_u8, u8_toNat]; omega

theorem wrap_u8_cast (n : Nat) : IntKind.wrap .u8 (n : Int) = ((u8 n).toNat : Int) := by
  rw [wrap_u8_nat _ (by omega)]; rfl
theorem wrap_u8_div (n i : Nat) : IntKind.wrap .u8 ((n : Int) / 256 ^ i) = ((u8 (n / 256 ^ i)).toNat : Int) := by
  rw [← wrap_u8_cast, Int.natCast_ediv, Int.natCast_pow]; rfl

theorem mod_u8_div (n i : Nat) : ((n : Int) / 256 ^ i) % 256 = ((u8 (n / 256 ^ i)).toNat : Int) := by
  rw [← wrap_u8_div, IntKind.wrap_u8]

theorem cast_div_step (m i : Nat) : (m : Int) / 256 ^ i / 256 = (m : Int) / 256 ^ (i + 1) := by
  rw [Int.ediv_ediv_of_nonneg (Int.pow_nonneg (by decide)), Int.pow_succ]

theorem wrap_u8_lit (n : Nat) : IntKind.wrap .u8 (no_index (OfNat.ofNat n) : Int) = ((u8 n).toNat : Int) := wrap_u8_cast n
theorem cast_beq (a b : Nat) : ((a : Int) == (b : Int)) = (a == b) := by rw [Bool.eq_iff_iff]; simp only [beq_iff_eq]; omega
theorem cast_beq0 (a : Nat) : ((a : Int) == 0) = (a == 0) := by rw [Bool.eq_iff_iff]; simp only [beq_iff_eq]; omega
theorem cast_bne0 (a : Nat) : ((a : Int) != 0) = (a != 0) := by rw [bne, bne, cast_beq0]
theorem cast_bne (a b : Nat) : ((a : Int) != (b : Int)) = (a != b) := by rw [bne, bne, cast_beq]

theorem int_div_toNat (n : Int) (k : Nat) (h : 0 ≤ n) : (n / (k : Int)).toNat = n.toNat / k := by
  obtain ⟨m, rfl⟩ : ∃ m : Nat, n = m := ⟨n.toNat, by omega⟩
  rw [← Int.natCast_ediv]; rfl

attribute [simp] wrap_u8_lit cast_beq cast_beq0 cast_bne cast_bne0 wrap_u8_cast wrap_u8_div lowB_length
end Go.Proofs.YtajpaagbfmjacaaGreatDoor.Am
