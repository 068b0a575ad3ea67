/-
  THE ABSTRACT MACHINE, FIRST PART: abstract values, abstract memory, and how they stand to the model's values and worlds. No program is named here.
-/
import Derived.WalkKit
import Derived.KernelRfl
namespace Go.Proofs.YtjmgnodeohmboaaDoor.Am
set_option linter.unusedSimpArgs false
set_option linter.unusedVariables false
open Go

/-- An abstract value. -/
inductive AV where
  /-- nothing is known of it -/
  | any
  /-- just this value (a number, a bool, a string, a float, nil ..) -/
  | v (x : Value)
  /-- a struct or an array, by its cells -/
  | agg (cs : List AV)
  | tup (vs : List AV)
  /-- a slice that nobody writes any more: its elements, of so many cells each -/
  | fsl (sz : Nat) (es : List AV)
  /-- a slice of the call's own: the whole block of this number -/
  | osl (id : Nat)
  /-- a pointer into a block of the call's own: element i, cell o -/
  | ptr (id i o : Nat)
  /-- a pointer into an element that nobody writes any more -/
  | fptr (e : AV) (o : Nat)
  /-- a part of a slice of the call's own: so many elements from one on -/
  | win (id off n : Nat)
  | fn (f : FuncId) (caps : List AV)
  | ifc (t : TypeId) (a : AV)
  deriving Inhabited

def AV.cells : AV → List AV
  | .agg cs => cs
  | x => [x]

def AV.cellsAll : List AV → List AV
  | [] => []
  | e :: es => e.cells ++ cellsAll es

@[simp] theorem AV.cells_agg (cs : List AV) : (AV.agg cs).cells = cs := rfl
@[simp] theorem AV.cells_v (x : Value) : (AV.v x).cells = [.v x] := rfl

theorem AV.cellsAll_append (a b : List AV) : AV.cellsAll (a ++ b) = AV.cellsAll a ++ AV.cellsAll b := by
  induction a with
  | nil => rfl
  | cons x a ih => simp [AV.cellsAll, ih]

theorem AV.cellsAll_length {sz : Nat} {es : List AV} (h : ∀ e ∈ es, e.cells.length = sz) : (AV.cellsAll es).length = es.length * sz := by
  induction es with
  | nil => simp [AV.cellsAll]
  | cons x a ih =>
    simp only [AV.cellsAll, List.length_append, List.length_cons]
    rw [h x (by simp), ih (fun e he => h e (by simp [he]))]
    rw [Nat.add_mul]; omega

theorem AV.cellsAll_at {sz : Nat} {es : List AV} (h : ∀ e ∈ es, e.cells.length = sz) : ∀ {i : Nat} {e : AV}, es[i]? = some e → ∀ j, j < sz → (AV.cellsAll es)[i * sz + j]? = e.cells[j]? := by
  induction es with
  | nil => intro i e he; simp at he
  | cons x a ih =>
    intro i e he j hj
    have hx := h x (by simp)
    cases i with
    | zero =>
      simp at he; subst he
      simp only [AV.cellsAll, Nat.zero_mul, Nat.zero_add]
      rw [List.getElem?_append_left (by omega)]
    | succ i =>
      simp at he
      simp only [AV.cellsAll]
      rw [List.getElem?_append_right (by rw [hx, Nat.add_mul]; omega), hx, ← ih (fun e he => h e (by simp [he])) he j hj]
      congr 1; rw [Nat.add_mul]; omega

mutual
/-- Does it name no block of the call's own? -/
def AV.isBare : AV → Bool
  | .agg cs => AV.isBareAll cs
  | .tup cs => AV.isBareAll cs
  | .fn _ cs => AV.isBareAll cs
  | .osl _ => false
  | .ptr .. => false
  | .win .. => false
  | .ifc _ a => a.isBare
  | .any => true
  | .v _ => true
  | .fsl .. => true
  | .fptr .. => true
def AV.isBareAll : List AV → Bool
  | [] => true
  | a :: as => a.isBare && AV.isBareAll as
end

/-- Where a block of the call's own lies. -/
inductive Loc where
  | var (b : Nat)
  | arr (sz : Nat) (g : Option Nat) (n cap : Nat)

def Loc.block : Loc → Option Nat
  | .var b => some b
  | .arr _ g _ _ => g

/-- The slice value of a place. -/
def head (g : Option Nat) (n cap : Nat) : Value := .slice (g.map fun b => ⟨b, 0, none⟩) n cap

/-- An abstract block. -/
inductive Blk where
  | gone
  | var (cs : List AV)
  | arr (t sz : Nat) (es : List AV)
  /-- a slice of the call's own with all that it has room for -/
  | buf (t sz : Nat) (es : List AV)
  /-- a slice that was given away: from now on nobody writes it -/
  | frz (a : AV)
  deriving Inhabited

/-- Is it a block that the call may still write? -/
def Blk.own : Blk → Bool
  | .var _ | .arr .. | .buf .. => true
  | _ => false

mutual
/-- The value stands for the abstract one. F: the blocks that nobody writes any more. B: where the call's own blocks lie; what nobody writes any more names none of them. -/
inductive VR (F : Nat → Prop) (w : World) : List Loc → AV → Value → Prop
  | any {B : List Loc} (x : Value) : VR F w B .any x
  | v {B : List Loc} (x : Value) : VR F w B (.v x) x
  | agg {B : List Loc} {cs : List AV} {vs : List Value} (h : CR F w B cs vs) : VR F w B (.agg cs) (.agg vs.toArray)
  | tup {B : List Loc} {cs : List AV} {vs : List Value} (h : CR F w B cs vs) : VR F w B (.tup cs) (.tuple vs.toArray)
  | fslNil {B : List Loc} {sz : Nat} (base : Option Addr) (cap : Nat) : VR F w B (.fsl sz []) (.slice base 0 cap)
  | fsl {B : List Loc} {sz : Nat} {es : List AV} {xs : List Value} (b o cap : Nat) (h : CR F w [] (AV.cellsAll es) xs) (hs : ∀ e ∈ es, e.cells.length = sz) (hF : F b)
      (hx : ∀ j x, xs[j]? = some x → w.cell? ⟨b, o + j, none⟩ = some x) (hcap : es.length ≤ cap) : VR F w B (.fsl sz es) (.slice (some ⟨b, o, none⟩) es.length cap)
  | osl {B : List Loc} {id sz n cap : Nat} {g : Option Nat} (h : B[id]? = some (.arr sz g n cap)) : VR F w B (.osl id) (head g n cap)
  | ptrV {B : List Loc} {id b o : Nat} (h : B[id]? = some (.var b)) : VR F w B (.ptr id 0 o) (.pointer (some ⟨b, o, none⟩))
  | ptrA {B : List Loc} {id i o g sz n cap : Nat} (h : B[id]? = some (.arr sz (some g) n cap)) : VR F w B (.ptr id i o) (.pointer (some ⟨g, i * sz + o, none⟩))
  | fptr {B : List Loc} {e : AV} {xs : List Value} (b a0 o : Nat) (h : CR F w [] e.cells xs) (hF : F b) (hx : ∀ j x, xs[j]? = some x → w.cell? ⟨b, a0 + j, none⟩ = some x) :
      VR F w B (.fptr e o) (.pointer (some ⟨b, a0 + o, none⟩))
  | win {B : List Loc} {id sz n N cap off p g : Nat} (h : B[id]? = some (.arr sz (some g) N cap)) (hc : off + n ≤ cap) (hp : off < cap ∨ off = 0 → p = off * sz) : VR F w B (.win id off n) (.slice (some ⟨g, p, none⟩) n (cap - off))
  | fn {B : List Loc} {f : FuncId} {caps : List AV} {vs : List Value} (h : CR F w B caps vs) : VR F w B (.fn f caps) (.func (.func f) #[] vs.toArray)
  | ifc {B : List Loc} {t : TypeId} {a : AV} {x : Value} (h : VR F w B a x) : VR F w B (.ifc t a) (.iface t x)
inductive CR (F : Nat → Prop) (w : World) : List Loc → List AV → List Value → Prop
  | nil {B : List Loc} : CR F w B [] []
  | cons {B : List Loc} {a : AV} {x : Value} {as : List AV} {xs : List Value} (h : VR F w B a x) (t : CR F w B as xs) : CR F w B (a :: as) (x :: xs)
end

/-- What is known stays known: more blocks that nobody writes, more places, and the old ones of F as they were. -/
structure Ext (F F' : Nat → Prop) (w w' : World) (B B' : List Loc) : Prop where
  fr : ∀ b, F b → F' b
  pl : ∀ (i : Nat) (l : Loc), B[i]? = some l → B'[i]? = some l
  hp : ∀ b, F b → w'.heap[b]? = w.heap[b]?

section
variable {F F' : Nat → Prop} {w w' : World} {B B' : List Loc}

theorem Ext.refl (F : Nat → Prop) (w : World) (B : List Loc) : Ext F F w w B B := ⟨fun _ h => h, fun _ _ h => h, fun _ _ => rfl⟩
theorem Ext.trans {F'' : Nat → Prop} {w'' : World} {B'' : List Loc} (h : Ext F F' w w' B B') (k : Ext F' F'' w' w'' B' B'') : Ext F F'' w w'' B B'' :=
  ⟨fun b hb => k.fr b (h.fr b hb), fun i l hl => k.pl i l (h.pl i l hl), fun b hb => (k.hp b (h.fr b hb)).trans (h.hp b hb)⟩
theorem Ext.bare (e : Ext F F' w w' B B') : Ext F F' w w' [] [] := ⟨e.fr, fun _ _ h => h, e.hp⟩

mutual
theorem VR.mono : ∀ {B B' : List Loc} {a : AV} {x : Value}, Ext F F' w w' B B' → VR F w B a x → VR F' w' B' a x
  | _, _, _, _, _, .any x => .any x
  | _, _, _, _, _, .v x => .v x
  | _, _, _, _, e, .agg h => .agg (CR.mono e h)
  | _, _, _, _, e, .tup h => .tup (CR.mono e h)
  | _, _, _, _, _, .fslNil base cap => .fslNil base cap
  | _, _, _, _, e, .fsl b o cap h hs hF hx hcap => .fsl b o cap (CR.mono e.bare h) hs (e.fr b hF) (fun j x hj => by rw [World.cell?_of_block (w := w) (a := ⟨b, o + j, none⟩) (e.hp b hF)]; exact hx j x hj) hcap
  | _, _, _, _, e, .osl h => .osl (e.pl _ _ h)
  | _, _, _, _, e, .ptrV h => .ptrV (e.pl _ _ h)
  | _, _, _, _, e, .ptrA h => .ptrA (e.pl _ _ h)
  | _, _, _, _, e, .fptr b a0 o h hF hx => .fptr b a0 o (CR.mono e.bare h) (e.fr b hF) (fun j x hj => by rw [World.cell?_of_block (w := w) (a := ⟨b, a0 + j, none⟩) (e.hp b hF)]; exact hx j x hj)
  | _, _, _, _, e, .win h hc hp => .win (e.pl _ _ h) hc hp
  | _, _, _, _, e, .fn h => .fn (CR.mono e h)
  | _, _, _, _, e, .ifc h => .ifc (VR.mono e h)
theorem CR.mono : ∀ {B B' : List Loc} {as : List AV} {xs : List Value}, Ext F F' w w' B B' → CR F w B as xs → CR F' w' B' as xs
  | _, _, _, _, _, .nil => .nil
  | _, _, _, _, e, .cons h t => .cons (VR.mono e h) (CR.mono e t)
end

theorem CR.length {as : List AV} {xs : List Value} (h : CR F w B as xs) : xs.length = as.length := by
  induction as generalizing xs with
  | nil => cases h; rfl
  | cons a as ih => cases h with | cons h t => simp [ih t]

theorem CR.at {as : List AV} {xs : List Value} (h : CR F w B as xs) : ∀ {i : Nat} {a : AV}, as[i]? = some a → ∃ x, xs[i]? = some x ∧ VR F w B a x := by
  induction as generalizing xs with
  | nil => intro i a ha; simp at ha
  | cons a0 as ih =>
    cases h with
    | cons h t =>
      intro i a ha
      cases i with
      | zero => simp at ha; subst ha; exact ⟨_, rfl, h⟩
      | succ i => simp at ha; obtain ⟨x, h1, h2⟩ := ih t ha; exact ⟨x, by simpa using h1, h2⟩

theorem CR.append {as bs : List AV} {xs ys : List Value} (h : CR F w B as xs) (k : CR F w B bs ys) : CR F w B (as ++ bs) (xs ++ ys) := by
  induction as generalizing xs with
  | nil => cases h; exact k
  | cons a as ih => cases h with | cons h t => exact .cons h (ih t)

theorem CR.take {as : List AV} {xs : List Value} (h : CR F w B as xs) (n : Nat) : CR F w B (as.take n) (xs.take n) := by
  induction as generalizing xs n with
  | nil => cases h; simp; exact .nil
  | cons a as ih => cases h with | cons h t => cases n with | zero => exact .nil | succ n => exact .cons h (ih t n)

theorem CR.drop {as : List AV} {xs : List Value} (h : CR F w B as xs) (n : Nat) : CR F w B (as.drop n) (xs.drop n) := by
  induction as generalizing xs n with
  | nil => cases h; simp; exact .nil
  | cons a as ih => cases h with | cons h t => cases n with | zero => exact .cons h t | succ n => exact ih t n

theorem CR.set {as : List AV} {xs : List Value} (h : CR F w B as xs) (n : Nat) {a : AV} {x : Value} (k : VR F w B a x) : CR F w B (as.set n a) (xs.set n x) := by
  induction as generalizing xs n with
  | nil => cases h; exact .nil
  | cons a0 as ih => cases h with | cons h t => cases n with | zero => exact .cons k t | succ n => exact .cons h (ih t n)

theorem CR.one {a : AV} {x : Value} (h : VR F w B a x) : CR F w B [a] [x] := .cons h .nil

theorem CR.of_one {a : AV} {xs : List Value} (h : CR F w B [a] xs) : ∃ x, xs = [x] ∧ VR F w B a x := by
  cases h with | cons h t => cases t; exact ⟨_, rfl, h⟩

theorem CR.splitL {as bs : List AV} {zs : List Value} (h : CR F w B (as ++ bs) zs) : ∃ xs ys, zs = xs ++ ys ∧ CR F w B as xs ∧ CR F w B bs ys := by
  induction as generalizing zs with
  | nil => exact ⟨[], zs, rfl, .nil, h⟩
  | cons a as ih =>
    cases h with
    | cons h t => obtain ⟨xs, ys, rfl, h1, h2⟩ := ih t; exact ⟨_ :: xs, ys, rfl, .cons h h1, h2⟩

/-- A block as it lies in memory. -/
def BR (F : Nat → Prop) (w : World) (B : List Loc) : Blk → Loc → Prop
  | .gone, _ => True
  | .var cs, .var b => ∃ t xs, w.heap[b]? = some (.cells xs.toArray t (0, 0)) ∧ CR F w B cs xs
  | .arr t sz es, .arr sz' g n cap => sz = sz' ∧ 0 < sz ∧ n = es.length ∧ (∀ e ∈ es, e.cells.length = sz) ∧ ∃ xs, w.ownsRow 0 t sz (head g n cap) n xs ∧ CR F w [] (AV.cellsAll es) xs
  | .buf t sz es, .arr sz' g _ cap => sz = sz' ∧ 0 < sz ∧ es.length = cap ∧ cap ≤ maxLen ∧ (∀ e ∈ es, e.cells.length = sz) ∧ ∃ b xs, g = some b ∧ w.heap[b]? = some (.cells xs.toArray t (0, 0)) ∧ CR F w [] (AV.cellsAll es) xs
  | .frz a, .arr _ g n cap => VR F w [] a (head g n cap)
  | _, _ => False

/-- The block that this number's abstract block owns. -/
def ownB (mem : List Blk) (B : List Loc) (i : Nat) : Option Nat :=
  match mem[i]?, B[i]? with
  | some b, some l => if b.own then l.block else none
  | _, _ => none

/-- The blocks of the package-level variables that contracts speak of, and what is known of them (filled in for each seat). -/
def globs : List Nat := [0, 1, 2]
def GlobOk : List (Option Obj) → Prop := fun l => ∃ (t0 : TypeId) (x0 : Value) (u0 : TypeId) (z0 : Nat × Nat) (t1 : TypeId) (x1 : Value) (u1 : TypeId) (z1 : Nat × Nat) (u2 : TypeId) (z2 : Nat × Nat), l = [some (.cells #[.iface t0 x0] u0 z0), some (.cells #[.iface t1 x1] u1 z1), some (.cells ((List.range 20).map fun i => Value.int .u64 (10 ^ i)).toArray u2 z2)]

/-- These blocks are written by nobody, and hold what is known of them. -/
structure Gl (F : Nat → Prop) (w : World) : Prop where
  fz : ∀ g ∈ globs, F g
  ok : GlobOk (globs.map fun g => w.heap[g]?)

theorem Gl.mono {F F' : Nat → Prop} {w w' : World} (h : Gl F w) (hF : ∀ b, F b → F' b) (hp : ∀ b, F b → w'.heap[b]? = w.heap[b]?) : Gl F' w' :=
  ⟨fun g hg => hF g (h.fz g hg), by
    have : (globs.map fun g => w'.heap[g]?) = globs.map fun g => w.heap[g]? := List.map_congr_left fun g hg => hp g (h.fz g hg)
    rw [this]; exact h.ok⟩

theorem Gl.same {F F' : Nat → Prop} {w : World} (h : Gl F w) (hF : ∀ b, F b → F' b) : Gl F' w := h.mono hF fun _ _ => rfl

/-- Abstract memory, as it lies. O: the blocks that the call may write. -/
structure MR (O F : Nat → Prop) (w : World) (B : List Loc) (mem : List Blk) : Prop where
  len : B.length = mem.length
  br : ∀ (i : Nat) (b : Blk) (l : Loc), mem[i]? = some b → B[i]? = some l → BR F w B b l
  sep : ∀ i j b, ownB mem B i = some b → ownB mem B j = some b → i = j
  own : ∀ i b, ownB mem B i = some b → O b ∧ ¬ F b ∧ b < w.heap.size
  fr : ∀ b, F b → b < w.heap.size
  gl : Gl F w

/-- How the world may go on: what is not O stays. -/
structure Ev (O : Nat → Prop) (w w' : World) : Prop where
  os : w'.os = w.os
  tape : w'.tape = w.tape
  output : w'.output = w.output
  size : w.heap.size ≤ w'.heap.size
  block : ∀ k, k < w.heap.size → ¬ O k → w'.heap[k]? = w.heap[k]?

theorem Ev.refl (O : Nat → Prop) (w : World) : Ev O w w := ⟨rfl, rfl, rfl, Nat.le_refl _, fun _ _ _ => rfl⟩
theorem Ev.trans {O : Nat → Prop} {a b c : World} (h : Ev O a b) (k : Ev O b c) : Ev O a c :=
  ⟨k.os.trans h.os, k.tape.trans h.tape, k.output.trans h.output, Nat.le_trans h.size k.size, fun i hi ho => (k.block i (Nat.lt_of_lt_of_le hi h.size) ho).trans (h.block i hi ho)⟩

theorem ownsRow_of_block {w w' : World} {e : TypeId} {sz n : Nat} {g : Option Nat} {m cap : Nat} {xs : List Value} (h : w.ownsRow 0 e sz (head g m cap) n xs) (hb : ∀ b, g = some b → w'.heap[b]? = w.heap[b]?) :
    w'.ownsRow 0 e sz (head g m cap) n xs := by
  obtain ⟨h1, h2⟩ := h
  refine ⟨h1, ?_⟩
  rcases h2 with h2 | ⟨k, c, cur, hv, h3, h4, h5⟩
  · exact .inl h2
  · refine .inr ⟨k, c, cur, hv, h3, ?_, h5⟩
    have : g = some k := by
      cases g with
      | none => simp [head] at hv
      | some b => simp [head] at hv; rw [hv.1]
    rw [hb k this]; exact h4

theorem BR.mono (e : Ext F F' w w' B B') {b : Blk} {l : Loc} (h : BR F w B b l) (hk : b.own = true → ∀ k, l.block = some k → w'.heap[k]? = w.heap[k]?) : BR F' w' B' b l := by
  match b, l, h with
  | .gone, _, _ => trivial
  | .var cs, .var b, ⟨t, xs, h1, h2⟩ => exact ⟨t, xs, by rw [hk rfl b rfl]; exact h1, h2.mono e⟩
  | .arr t sz es, .arr sz' g n cap, ⟨h1, h2, h3, h4, xs, h5, h6⟩ => exact ⟨h1, h2, h3, h4, xs, ownsRow_of_block h5 (fun k hkk => hk rfl k hkk), h6.mono e.bare⟩
  | .buf t sz es, .arr sz' g n cap, ⟨h1, h2, h3, h4, h5, b, xs, h6, h7, h8⟩ => exact ⟨h1, h2, h3, h4, h5, b, xs, h6, by rw [hk rfl b (by rw [h6]; rfl)]; exact h7, h8.mono e.bare⟩
  | .frz a, .arr _ g n cap, h => exact VR.mono e.bare h

theorem ownB_some {mem : List Blk} {i b : Nat} (h : ownB mem B i = some b) : ∃ k l, mem[i]? = some k ∧ B[i]? = some l ∧ k.own = true ∧ l.block = some b := by
  unfold ownB at h
  split at h
  · rename_i k l h1 h2
    split at h
    · exact ⟨k, l, h1, h2, ‹_›, h⟩
    · simp at h
  · simp at h

theorem ownB_mk {mem : List Blk} {i b : Nat} {k : Blk} {l : Loc} (h1 : mem[i]? = some k) (h2 : B[i]? = some l) (h3 : k.own = true) (h4 : l.block = some b) : ownB mem B i = some b := by
  unfold ownB; simp [h1, h2, h3, h4]

/-- The world goes on, all abstract blocks stay (draws, say). -/
theorem MR.go {O : Nat → Prop} {mem : List Blk} (h : MR O F w B mem) (hs : w.heap.size ≤ w'.heap.size) (hb : ∀ b, (F b ∨ ∃ i, ownB mem B i = some b) → w'.heap[b]? = w.heap[b]?) : MR O F w' B mem := by
  have e : Ext F F w w' B B := ⟨fun _ h => h, fun _ _ h => h, fun b hF => hb b (.inl hF)⟩
  refine ⟨h.len, fun i b l h1 h2 => (h.br i b l h1 h2).mono e (fun ho k hk => hb k (.inr ⟨i, ownB_mk h1 h2 ho hk⟩)), h.sep, fun i b hi => ?_, fun b hF => Nat.lt_of_lt_of_le (h.fr b hF) hs, h.gl.mono (fun _ h => h) e.hp⟩
  obtain ⟨h1, h2, h3⟩ := h.own i b hi
  exact ⟨h1, h2, Nat.lt_of_lt_of_le h3 hs⟩

theorem ext_append (F : Nat → Prop) (w : World) (B : List Loc) (l : List Loc) : Ext F F w w B (B ++ l) :=
  ⟨fun _ h => h, fun i x h => by rw [List.getElem?_append_left (by have := List.getElem?_eq_some_iff.1 h; exact this.1)]; exact h, fun _ _ => rfl⟩

theorem ownB_append_old {mem : List Blk} {m2 : List Blk} {B2 : List Loc} (hl : B.length = mem.length) {i : Nat} (hi : i < mem.length) : ownB (mem ++ m2) (B ++ B2) i = ownB mem B i := by
  unfold ownB
  rw [List.getElem?_append_left hi, List.getElem?_append_left (by omega)]

/-- A new block behind all others. -/
theorem MR.push {O : Nat → Prop} {mem : List Blk} (h : MR O F w B mem) {k : Blk} {l : Loc} (hs : w.heap.size ≤ w'.heap.size) (hb : ∀ b, (F b ∨ ∃ i, ownB mem B i = some b) → w'.heap[b]? = w.heap[b]?)
    (hk : BR F w' (B ++ [l]) k l) (hn : k.own = true → ∀ b, l.block = some b → (∀ i, ownB mem B i ≠ some b) ∧ ¬ F b ∧ b < w'.heap.size ∧ O b) : MR O F w' (B ++ [l]) (mem ++ [k]) := by
  have h' := h.go hs hb
  have e : Ext F F w' w' B (B ++ [l]) := ext_append F w' B [l]
  have hlen := h.len
  have old : ∀ i, i < mem.length → ownB (mem ++ [k]) (B ++ [l]) i = ownB mem B i := fun i hi => ownB_append_old hlen hi
  have lt : ∀ i b, ownB (mem ++ [k]) (B ++ [l]) i = some b → i ≤ mem.length := fun i b hi => by
    obtain ⟨_, _, h1, _⟩ := ownB_some hi
    have := (List.getElem?_eq_some_iff.1 h1).1
    simp at this; omega
  have new : ∀ b, ownB (mem ++ [k]) (B ++ [l]) mem.length = some b → (∀ i, ownB mem B i ≠ some b) ∧ ¬ F b ∧ b < w'.heap.size ∧ O b := fun b hb => by
    obtain ⟨k', l', h1, h2, h3, h4⟩ := ownB_some hb
    rw [List.getElem?_append_right (by omega)] at h1
    rw [← hlen, List.getElem?_append_right (by omega)] at h2
    simp at h1 h2; subst h1; subst h2
    exact hn h3 b h4
  refine ⟨by simp [hlen], ?_, ?_, ?_, h'.fr, h'.gl⟩
  · intro i b l' h1 h2
    by_cases hi : i < mem.length
    · rw [List.getElem?_append_left hi] at h1
      rw [List.getElem?_append_left (by omega)] at h2
      exact (h'.br i b l' h1 h2).mono e (fun _ _ _ => rfl)
    · have h1' := (List.getElem?_eq_some_iff.1 h1).1
      simp at h1'
      have : i = mem.length := by omega
      subst this
      rw [List.getElem?_append_right (by omega)] at h1
      rw [← hlen, List.getElem?_append_right (by omega)] at h2
      simp at h1 h2; subst h1; subst h2
      exact hk
  · intro i j b hi hj
    have li := lt i b hi
    have lj := lt j b hj
    by_cases e1 : i = mem.length
    · by_cases e2 : j = mem.length
      · omega
      · subst e1
        rw [old j (by omega)] at hj
        exact absurd hj ((new b hi).1 j)
    · by_cases e2 : j = mem.length
      · subst e2
        rw [old i (by omega)] at hi
        exact absurd hi ((new b hj).1 i)
      · rw [old i (by omega)] at hi
        rw [old j (by omega)] at hj
        exact h.sep i j b hi hj
  · intro i b hi
    have li := lt i b hi
    by_cases e1 : i = mem.length
    · subst e1
      obtain ⟨_, h1, h2, h3⟩ := new b hi
      exact ⟨h3, h1, h2⟩
    · rw [old i (by omega)] at hi
      obtain ⟨h1, h2, h3⟩ := h.own i b hi
      exact ⟨h1, h2, by omega⟩

/-- A block that is new to all. -/
theorem MR.fresh {O : Nat → Prop} {mem : List Blk} (h : MR O F w B mem) {b : Nat} (hb : w.heap.size ≤ b) : (∀ i, ownB mem B i ≠ some b) ∧ ¬ F b :=
  ⟨fun i hi => by have := (h.own i b hi).2.2; omega, fun hF => by have := h.fr b hF; omega⟩

theorem MR.old {O : Nat → Prop} {mem : List Blk} (h : MR O F w B mem) {b : Nat} (hb : F b ∨ ∃ i, ownB mem B i = some b) : b < w.heap.size := by
  rcases hb with hb | ⟨i, hb⟩
  · exact h.fr b hb
  · exact (h.own i b hb).2.2

mutual
theorem VR.toBare : ∀ {B : List Loc} {a : AV} {x : Value}, VR F w B a x → a.isBare = true → VR F w [] a x
  | _, _, _, .any x, _ => .any x
  | _, _, _, .v x, _ => .v x
  | _, _, _, .agg h, hb => .agg (CR.toBare h hb)
  | _, _, _, .tup h, hb => .tup (CR.toBare h hb)
  | _, _, _, .fslNil base cap, _ => .fslNil base cap
  | _, _, _, .fsl b o cap h hs hF hx hcap, _ => .fsl b o cap h hs hF hx hcap
  | _, _, _, .osl _, hb => by cases hb
  | _, _, _, .ptrV _, hb => by cases hb
  | _, _, _, .ptrA _, hb => by cases hb
  | _, _, _, .fptr b a0 o h hF hx, _ => .fptr b a0 o h hF hx
  | _, _, _, .win .., hb => by cases hb
  | _, _, _, .fn h, hb => .fn (CR.toBare h hb)
  | _, _, _, .ifc h, hb => .ifc (VR.toBare h hb)
theorem CR.toBare : ∀ {B : List Loc} {as : List AV} {xs : List Value}, CR F w B as xs → AV.isBareAll as = true → CR F w [] as xs
  | _, _, _, .nil, _ => .nil
  | _, _, _, .cons h t, hb => by
    simp only [AV.isBareAll, Bool.and_eq_true] at hb
    exact .cons (VR.toBare h hb.1) (CR.toBare t hb.2)
end

/-- One block is written: all else stays. -/
theorem MR.write {O : Nat → Prop} {mem : List Blk} (h : MR O F w B mem) {i : Nat} {k0 k : Blk} {l : Loc} {b : Nat} (hi : mem[i]? = some k0) (hl : B[i]? = some l) (ho : k0.own = true) (hlb : l.block = some b)
    (hs : w'.heap.size = w.heap.size) (hb : ∀ c, c ≠ b → w'.heap[c]? = w.heap[c]?) (hk : Ext F F w w' B B → BR F w' B k l) : MR O F w' B (mem.set i k) ∧ Ext F F w w' B B := by
  have hown := h.own i b (ownB_mk hi hl ho hlb)
  have e : Ext F F w w' B B := ⟨fun _ h => h, fun _ _ h => h, fun c hF => hb c (fun hc => hown.2.1 (hc ▸ hF))⟩
  have hlt : i < mem.length := (List.getElem?_eq_some_iff.1 hi).1
  have imp : ∀ j c, ownB (mem.set i k) B j = some c → ownB mem B j = some c := fun j c hj => by
    obtain ⟨k', l', h1, h2, h3, h4⟩ := ownB_some hj
    by_cases hij : i = j
    · subst hij
      rw [hl] at h2; cases h2
      exact ownB_mk hi hl ho h4
    · rw [List.getElem?_set_ne hij] at h1
      exact ownB_mk h1 h2 h3 h4
  refine ⟨⟨by simp [h.len], ?_, fun j j' c h1 h2 => h.sep j j' c (imp j c h1) (imp j' c h2), fun j c hj => ?_, fun c hF => by rw [hs]; exact h.fr c hF, h.gl.mono (fun _ h => h) e.hp⟩, e⟩
  · intro j bj lj h1 h2
    by_cases hij : i = j
    · subst hij
      rw [List.getElem?_set_self hlt] at h1; cases h1
      rw [hl] at h2; cases h2
      exact hk e
    · rw [List.getElem?_set_ne hij] at h1
      refine (h.br j bj lj h1 h2).mono e (fun hoj c hc => hb c (fun hcb => ?_))
      subst hcb
      exact hij (h.sep i j c (ownB_mk hi hl ho hlb) (ownB_mk h1 h2 hoj hc))
  · obtain ⟨h1, h2, h3⟩ := h.own j c (imp j c hj)
    exact ⟨h1, h2, by omega⟩

/-- A block is forgotten. -/
theorem MR.forget {O : Nat → Prop} {mem : List Blk} (h : MR O F w B mem) (i : Nat) : MR O F w B (mem.set i .gone) := by
  have imp : ∀ j c, ownB (mem.set i .gone) B j = some c → ownB mem B j = some c := fun j c hj => by
    obtain ⟨k', l', h1, h2, h3, h4⟩ := ownB_some hj
    by_cases hij : i = j
    · subst hij
      by_cases hlt : i < mem.length
      · rw [List.getElem?_set_self hlt] at h1; cases h1; cases h3
      · rw [List.getElem?_eq_none (by simp; omega)] at h1; cases h1
    · rw [List.getElem?_set_ne hij] at h1
      exact ownB_mk h1 h2 h3 h4
  refine ⟨by simp [h.len], ?_, fun j j' c h1 h2 => h.sep j j' c (imp j c h1) (imp j' c h2), fun j c hj => h.own j c (imp j c hj), h.fr, h.gl⟩
  intro j bj lj h1 h2
  by_cases hij : i = j
  · subst hij
    by_cases hlt : i < mem.length
    · rw [List.getElem?_set_self hlt] at h1; cases h1; trivial
    · rw [List.getElem?_eq_none (by simp; omega)] at h1; cases h1
  · rw [List.getElem?_set_ne hij] at h1
    exact h.br j bj lj h1 h2

end
end Go.Proofs.YtjmgnodeohmboaaDoor.Am
