/-
  THE ABSTRACT MACHINE, FIRST PART: abstract values, abstract memory, and how they stand to the model's values and worlds. No program is named here.
-/
import Derived.WalkKit
import Derived.KernelRfl
namespace Go.Proofs.YtajpaagbfmjacaaGreatDoor.Am
set_option linter.unusedSimpArgs false
set_option linter.unusedVariables false
open Go

/-- An abstract value. -/
inductive AV where
  /-- nothing is known of it -/
  | any
  /-- just this value (a number, a bool, a string, a float, nil ..) -/
  | v (x : Value)
  /-- a struct or an array, by its cells -/
  | agg (cs : List AV)
  | tup (vs : List AV)
  /-- a slice that nobody writes any more: its elements, of so many cells each -/
  | fsl (sz : Nat) (es : List AV)
  /-- a slice of the call's own: the whole block of this number -/
  | osl (id : Nat)
  /-- a pointer into a block of the call's own: element i, cell o -/
  | ptr (id i o : Nat)
  /-- a pointer into an element that nobody writes any more -/
  | fptr (e : AV) (o : Nat)
  /-- a part of a slice of the call's own: so many elements from one on -/
  | win (id off n : Nat)
  | fn (f : FuncId) (caps : List AV)
  | ifc (t : TypeId) (a : AV)
  deriving Inhabited

def AV.cells : AV → List AV
  | .agg cs => cs
  | x => [x]

def AV.cellsAll : List AV → List AV
  | [] => []
  | e :: es => e.cells ++ cellsAll es

@[simp] theorem AV.cells_agg (cs : List AV) : (AV.agg cs).cells = cs := rfl
@[simp] theorem AV.cells_v (x : Value) : (AV.v x).cells = [.v x] := rfl

theorem AV.cellsAll_append (a b : List AV) : AV.cellsAll (a ++ b) = AV.cellsAll a ++ AV.cellsAll b := by
  induction a with
  | nil => rfl
  | cons x a ih => simp [AV.cellsAll, ih]

theorem AV.cellsAll_length {sz : Nat} {es : List AV} (h : ∀ e ∈ es, e.cells.length = sz) : (AV.cellsAll es).length = es.length * sz := by
  induction es with
  | nil => simp [AV.cellsAll]
  | cons x a ih =>
    simp only [AV.cellsAll, List.length_append, List.length_cons]
    rw [h x (by simp), ih (fun e he => h e (by simp [he]))]
    rw [Nat.add_mul]; omega

theorem AV.cellsAll_at {sz : Nat} {es : List AV} (h : ∀ e ∈ es, e.cells.length = sz) : ∀ {i : Nat} {e : AV}, es[i]? = some e → ∀ j, j < sz → (AV.cellsAll es)[i * sz + j]? = e.cells[j]? := by
  induction es with
  | nil => intro i e he; simp at he
  | cons x a ih =>
    intro i e he j hj
    have hx := h x (by simp)
    cases i with
    | zero =>
      simp at he; subst he
      simp only [AV.cellsAll, Nat.zero_mul, Nat.zero_add]
      rw [List.getElem?_append_left (by omega)]
    | succ i =>
      simp at he
      simp only [AV.cellsAll]
      rw [List.getElem?_append_right (by rw [hx, Nat.add_mul]; omega), hx, ← ih (fun e he => h e (by simp [he])) he j hj]
      congr 1; rw [Nat.add_mul]; omega

mutual
/-- Does it name no block of the call's own? -/
def AV.isBare : AV → Bool
  | .agg cs => AV.isBareAll cs
  | .tup cs => AV.isBareAll cs
  | .fn _ cs => AV.isBareAll cs
  | .osl _ => false
  | .ptr .. => false
  | .win .. => false
  | .ifc _ a => a.isBare
  | .any => true
  | .v _ => true
  | .fsl .. => true
  | .fptr .. => true
def AV.isBareAll : List AV → Bool
  | [] => true
  | a :: as => a.isBare && AV.isBareAll as
end

/-- Where a block of the call's own lies. -/
inductive Loc where
  | var (b : Nat)
  | arr (sz : Nat) (g : Option Nat) (n cap : Nat)
  | map (b : Nat)
  /-- a slice of the call's own that begins at a cell of its block -/
  | wrr (sz b off n cap : Nat)

def Loc.block : Loc → Option Nat
  | .var b => some b
  | .arr _ g _ _ => g
  | .map b => some b
  | .wrr _ b _ _ _ => some b

/-- The slice value of a place. -/
def head (g : Option Nat) (n cap : Nat) : Value := .slice (g.map fun b => ⟨b, 0, none⟩) n cap

/-- An abstract block. -/
inductive Blk where
  | gone
  | var (cs : List AV)
  /-- a variable whose type is known -/
  | tvar (t : TypeId) (cs : List AV)
  | arr (t sz : Nat) (es : List AV)
  /-- a slice of the call's own with all that it has room for -/
  | buf (t sz : Nat) (es : List AV)
  /-- a slice that was given away: from now on nobody writes it -/
  | frz (a : AV)
  /-- a map with texts as keys, of the call's own -/
  | map (es : List (ByteArray × AV))
  /-- what is left of a slice of the call's own behind its first elements -/
  | wrr (t sz : Nat) (es : List AV)
  deriving Inhabited

/-- Is it a block that the call may still write? -/
def Blk.own : Blk → Bool
  | .var _ | .tvar .. | .arr .. | .buf .. | .map _ | .wrr .. => true
  | _ => false

mutual
/-- The value stands for the abstract one. F: the blocks that nobody writes any more. B: where the call's own blocks lie; what nobody writes any more names none of them. -/
inductive VR (F : Nat → Prop) (w : World) : List Loc → AV → Value → Prop
  | any {B : List Loc} (x : Value) : VR F w B .any x
  | v {B : List Loc} (x : Value) : VR F w B (.v x) x
  | agg {B : List Loc} {cs : List AV} {vs : List Value} (h : CR F w B cs vs) : VR F w B (.agg cs) (.agg vs.toArray)
  | tup {B : List Loc} {cs : List AV} {vs : List Value} (h : CR F w B cs vs) : VR F w B (.tup cs) (.tuple vs.toArray)
  | fslNil {B : List Loc} {sz : Nat} (base : Option Addr) (cap : Nat) : VR F w B (.fsl sz []) (.slice base 0 cap)
  | fsl {B : List Loc} {sz : Nat} {es : List AV} {xs : List Value} (b o cap : Nat) (h : CR F w [] (AV.cellsAll es) xs) (hs : ∀ e ∈ es, e.cells.length = sz) (hF : F b)
      (hx : ∀ j x, xs[j]? = some x → w.cell? ⟨b, o + j, none⟩ = some x) (hcap : es.length ≤ cap) : VR F w B (.fsl sz es) (.slice (some ⟨b, o, none⟩) es.length cap)
  | osl {B : List Loc} {id sz n cap : Nat} {g : Option Nat} (h : B[id]? = some (.arr sz g n cap)) : VR F w B (.osl id) (head g n cap)
  | oslW {B : List Loc} {id sz b off n cap : Nat} (h : B[id]? = some (.wrr sz b off n cap)) : VR F w B (.osl id) (.slice (some ⟨b, off, none⟩) n cap)
  | omap {B : List Loc} {id b : Nat} (h : B[id]? = some (.map b)) : VR F w B (.osl id) (.map (some b))
  | ptrV {B : List Loc} {id b o : Nat} (h : B[id]? = some (.var b)) : VR F w B (.ptr id 0 o) (.pointer (some ⟨b, o, none⟩))
  | ptrA {B : List Loc} {id i o g sz n cap : Nat} (h : B[id]? = some (.arr sz (some g) n cap)) : VR F w B (.ptr id i o) (.pointer (some ⟨g, i * sz + o, none⟩))
  | ptrW {B : List Loc} {id i o sz b off n cap : Nat} (h : B[id]? = some (.wrr sz b off n cap)) : VR F w B (.ptr id i o) (.pointer (some ⟨b, off + (i * sz + o), none⟩))
  | fptr {B : List Loc} {e : AV} {xs : List Value} (b a0 o : Nat) (h : CR F w [] e.cells xs) (hF : F b) (hx : ∀ j x, xs[j]? = some x → w.cell? ⟨b, a0 + j, none⟩ = some x) :
      VR F w B (.fptr e o) (.pointer (some ⟨b, a0 + o, none⟩))
  | win {B : List Loc} {id sz n N cap off p g : Nat} (h : B[id]? = some (.arr sz (some g) N cap)) (hc : off + n ≤ cap) (hp : off < cap ∨ off = 0 → p = off * sz) : VR F w B (.win id off n) (.slice (some ⟨g, p, none⟩) n (cap - off))
  | fn {B : List Loc} {f : FuncId} {caps : List AV} {vs : List Value} (h : CR F w B caps vs) : VR F w B (.fn f caps) (.func (.func f) #[] vs.toArray)
  | ifc {B : List Loc} {t : TypeId} {a : AV} {x : Value} (h : VR F w B a x) : VR F w B (.ifc t a) (.iface t x)
inductive CR (F : Nat → Prop) (w : World) : List Loc → List AV → List Value → Prop
  | nil {B : List Loc} : CR F w B [] []
  | cons {B : List Loc} {a : AV} {x : Value} {as : List AV} {xs : List Value} (h : VR F w B a x) (t : CR F w B as xs) : CR F w B (a :: as) (x :: xs)
end

/-- What is known stays known: more blocks that nobody writes, more places, and the old ones of F as they were. -/
structure Ext (F F' : Nat → Prop) (w w' : World) (B B' : List Loc) : Prop where
  fr : ∀ b, F b → F' b
  pl : ∀ (i : Nat) (l : Loc), B[i]? = some l → B'[i]? = some l
  hp : ∀ b, F b → w'.heap[b]? = w.heap[b]?

section
variable {F F' : Nat → Prop} {w w' : World} {B B' : List Loc}

theorem Ext.refl (F : Nat → Prop) (w : World) (B : List Loc) : Ext F F w w B B := ⟨fun _ h => h, fun _ _ h => h, fun _ _ => rfl⟩
theorem Ext.trans {F'' : Nat → Prop} {w'' : World} {B'' : List Loc} (h : Ext F F' w w' B B') (k : Ext F' F'' w' w'' B' B'') : Ext F F'' w w'' B B'' :=
  ⟨fun b hb => k.fr b (h.fr b hb), fun i l hl => k.pl i l (h.pl i l hl), fun b hb => (k.hp b (h.fr b hb)).trans (h.hp b hb)⟩
theorem Ext.bare (e : Ext F F' w w' B B') : Ext F F' w w' [] [] := ⟨e.fr, fun _ _ h => h, e.hp⟩

mutual
theorem VR.mono : ∀ {B B' : List Loc} {a : AV} {x : Value}, Ext F F' w w' B B' → VR F w B a x → VR F' w' B' a x
  | _, _, _, _, _, .any x => .any x
  | _, _, _, _, _, .v x => .v x
  | _, _, _, _, e, .agg h => .agg (CR.mono e h)
  | _, _, _, _, e, .tup h => .tup (CR.mono e h)
  | _, _, _, _, _, .fslNil base cap => .fslNil base cap
  | _, _, _, _, e, .fsl b o cap h hs hF hx hcap => .fsl b o cap (CR.mono e.bare h) hs (e.fr b hF) (fun j x hj => by rw [World.cell?_of_block (w := w) (a := ⟨b, o + j, none⟩) (e.hp b hF)]; exact hx j x hj) hcap
  | _, _, _, _, e, .osl h => .osl (e.pl _ _ h)
  | _, _, _, _, e, .omap h => .omap (e.pl _ _ h)
  | _, _, _, _, e, .oslW h => .oslW (e.pl _ _ h)
  | _, _, _, _, e, .ptrW h => .ptrW (e.pl _ _ h)
  | _, _, _, _, e, .ptrV h => .ptrV (e.pl _ _ h)
  | _, _, _, _, e, .ptrA h => .ptrA (e.pl _ _ h)
  | _, _, _, _, e, .fptr b a0 o h hF hx => .fptr b a0 o (CR.mono e.bare h) (e.fr b hF) (fun j x hj => by rw [World.cell?_of_block (w := w) (a := ⟨b, a0 + j, none⟩) (e.hp b hF)]; exact hx j x hj)
  | _, _, _, _, e, .win h hc hp => .win (e.pl _ _ h) hc hp
  | _, _, _, _, e, .fn h => .fn (CR.mono e h)
  | _, _, _, _, e, .ifc h => .ifc (VR.mono e h)
theorem CR.mono : ∀ {B B' : List Loc} {as : List AV} {xs : List Value}, Ext F F' w w' B B' → CR F w B as xs → CR F' w' B' as xs
  | _, _, _, _, _, .nil => .nil
  | _, _, _, _, e, .cons h t => .cons (VR.mono e h) (CR.mono e t)
end

theorem CR.length {as : List AV} {xs : List Value} (h : CR F w B as xs) : xs.length = as.length := by
  induction as generalizing xs with
  | nil => cases h; rfl
  | cons a as ih => cases h with | cons h t => simp [ih t]

theorem CR.at {as : List AV} {xs : List Value} (h : CR F w B as xs) : ∀ {i : Nat} {a : AV}, as[i]? = some a → ∃ x, xs[i]? = some x ∧ VR F w B a x := by
  induction as generalizing xs with
  | nil => intro i a ha; simp at ha
  | cons a0 as ih =>
    cases h with
    | cons h t =>
      intro i a ha
      cases i with
      | zero => simp at ha; subst ha; exact ⟨_, rfl, h⟩
      | succ i => simp at ha; obtain ⟨x, h1, h2⟩ := ih t ha; exact ⟨x, by simpa using h1, h2⟩

theorem CR.append {as bs : List AV} {xs ys : List Value} (h : CR F w B as xs) (k : CR F w B bs ys) : CR F w B (as ++ bs) (xs ++ ys) := by
  induction as generalizing xs with
  | nil => cases h; exact k
  | cons a as ih => cases h with | cons h t => exact .cons h (ih t)

theorem CR.take {as : List AV} {xs : List Value} (h : CR F w B as xs) (n : Nat) : CR F w B (as.take n) (xs.take n) := by
  induction as generalizing xs n with
  | nil => cases h; simp; exact .nil
  | cons a as ih => cases h with | cons h t => cases n with | zero => exact .nil | succ n => exact .cons h (ih t n)

theorem CR.drop {as : List AV} {xs : List Value} (h : CR F w B as xs) (n : Nat) : CR F w B (as.drop n) (xs.drop n) := by
  induction as generalizing xs n with
  | nil => cases h; simp; exact .nil
  | cons a as ih => cases h with | cons h t => cases n with | zero => exact .cons h t | succ n => exact ih t n

theorem CR.set {as : List AV} {xs : List Value} (h : CR F w B as xs) (n : Nat) {a : AV} {x : Value} (k : VR F w B a x) : CR F w B (as.set n a) (xs.set n x) := by
  induction as generalizing xs n with
  | nil => cases h; exact .nil
  | cons a0 as ih => cases h with | cons h t => cases n with | zero => exact .cons k t | succ n => exact .cons h (ih t n)

theorem CR.one {a : AV} {x : Value} (h : VR F w B a x) : CR F w B [a] [x] := .cons h .nil

theorem CR.of_one {a : AV} {xs : List Value} (h : CR F w B [a] xs) : ∃ x, xs = [x] ∧ VR F w B a x := by
  cases h with | cons h t => cases t; exact ⟨_, rfl, h⟩

theorem CR.splitL {as bs : List AV} {zs : List Value} (h : CR F w B (as ++ bs) zs) : ∃ xs ys, zs = xs ++ ys ∧ CR F w B as xs ∧ CR F w B bs ys := by
  induction as generalizing zs with
  | nil => exact ⟨[], zs, rfl, .nil, h⟩
  | cons a as ih =>
    cases h with
    | cons h t => obtain ⟨xs, ys, rfl, h1, h2⟩ := ih t; exact ⟨_ :: xs, ys, rfl, .cons h h1, h2⟩

/-- A block as it lies in memory. -/
def BR (F : Nat → Prop) (w : World) (B : List Loc) : Blk → Loc → Prop
  | .gone, _ => True
  | .var cs, .var b => ∃ t xs, w.heap[b]? = some (.cells xs.toArray t (0, 0)) ∧ CR F w B cs xs
  | .tvar t cs, .var b => ∃ xs, w.heap[b]? = some (.cells xs.toArray t (0, 0)) ∧ CR F w B cs xs
  | .arr t sz es, .arr sz' g n cap => sz = sz' ∧ 0 < sz ∧ n = es.length ∧ (∀ e ∈ es, e.cells.length = sz) ∧ ∃ xs, w.ownsRow 0 t sz (head g n cap) n xs ∧ CR F w [] (AV.cellsAll es) xs
  | .buf t sz es, .arr sz' g _ cap => sz = sz' ∧ 0 < sz ∧ es.length = cap ∧ cap ≤ maxLen ∧ (∀ e ∈ es, e.cells.length = sz) ∧ ∃ b xs, g = some b ∧ w.heap[b]? = some (.cells xs.toArray t (0, 0)) ∧ CR F w [] (AV.cellsAll es) xs
  | .frz a, .arr _ g n cap => VR F w [] a (head g n cap)
  | .frz a, .wrr _ b off n cap => VR F w [] a (.slice (some ⟨b, off, none⟩) n cap)
  | .wrr t sz es, .wrr sz' b off n cap => sz = sz' ∧ 0 < sz ∧ n = es.length ∧ n ≤ cap ∧ cap ≤ maxLen ∧ (∀ e ∈ es, e.cells.length = sz) ∧ ∃ (cur : Array Value) (xs : List Value), w.heap[b]? = some (.cells cur t (0, 0)) ∧ off + cap * sz ≤ cur.size ∧ (cur.toList.drop off).take (n * sz) = xs ∧ CR F w [] (AV.cellsAll es) xs
  | .map es, .map b => ∃ (ents : Array MapEntry) (clock : Nat), w.heap[b]? = some (.map ents clock) ∧ ents.toList.map (·.key) = es.map (fun e => Value.string e.1) ∧ CR F w B (es.map (·.2)) (ents.toList.map (·.val))
  | _, _ => False

/-- The block that this number's abstract block owns. -/
def ownB (mem : List Blk) (B : List Loc) (i : Nat) : Option Nat :=
  match mem[i]?, B[i]? with
  | some b, some l => if b.own then l.block else none
  | _, _ => none

/-- The blocks of the package-level variables that contracts speak of, and what is known of them (filled in for each seat). -/
def globs : List Nat := [0, 2, 3, 4, 5]
def GlobOk : List (Option Obj) → Prop := fun l => True
/-- The tables among them. -/
def globA : Nat → Option (List Value) := fun b => if b = 0 then some [.int .u8 0, .int .u8 1, .int .u8 28, .int .u8 2, .int .u8 29, .int .u8 14, .int .u8 24, .int .u8 3, .int .u8 30, .int .u8 22, .int .u8 20, .int .u8 15, .int .u8 25, .int .u8 17, .int .u8 4, .int .u8 8, .int .u8 31, .int .u8 27, .int .u8 13, .int .u8 23, .int .u8 21, .int .u8 19, .int .u8 16, .int .u8 7, .int .u8 26, .int .u8 12, .int .u8 18, .int .u8 6, .int .u8 11, .int .u8 5, .int .u8 10, .int .u8 9] else if b = 2 then some [.int .u64 1, .int .u64 10, .int .u64 100, .int .u64 1000, .int .u64 10000, .int .u64 100000, .int .u64 1000000, .int .u64 10000000, .int .u64 100000000, .int .u64 1000000000, .int .u64 10000000000, .int .u64 100000000000, .int .u64 1000000000000, .int .u64 10000000000000, .int .u64 100000000000000, .int .u64 1000000000000000, .int .u64 10000000000000000, .int .u64 100000000000000000, .int .u64 1000000000000000000, .int .u64 10000000000000000000] else if b = 3 then some [.int .u8 0, .int .u8 1, .int .u8 56, .int .u8 2, .int .u8 57, .int .u8 49, .int .u8 28, .int .u8 3, .int .u8 61, .int .u8 58, .int .u8 42, .int .u8 50, .int .u8 38, .int .u8 29, .int .u8 17, .int .u8 4, .int .u8 62, .int .u8 47, .int .u8 59, .int .u8 36, .int .u8 45, .int .u8 43, .int .u8 51, .int .u8 22, .int .u8 53, .int .u8 39, .int .u8 33, .int .u8 30, .int .u8 24, .int .u8 18, .int .u8 12, .int .u8 5, .int .u8 63, .int .u8 55, .int .u8 48, .int .u8 27, .int .u8 60, .int .u8 41, .int .u8 37, .int .u8 16, .int .u8 46, .int .u8 35, .int .u8 44, .int .u8 21, .int .u8 52, .int .u8 32, .int .u8 23, .int .u8 11, .int .u8 54, .int .u8 26, .int .u8 40, .int .u8 15, .int .u8 34, .int .u8 20, .int .u8 31, .int .u8 10, .int .u8 25, .int .u8 14, .int .u8 19, .int .u8 9, .int .u8 13, .int .u8 8, .int .u8 7, .int .u8 6] else none

/-- These blocks are written by nobody, and hold what is known of them. -/
structure Gl (F : Nat → Prop) (w : World) : Prop where
  fz : ∀ g ∈ globs, F g
  ok : GlobOk (globs.map fun g => w.heap[g]?)
  arr : ∀ b cs, globA b = some cs → F b ∧ ∃ t z, w.heap[b]? = some (.cells cs.toArray t z)

theorem Gl.mono {F F' : Nat → Prop} {w w' : World} (h : Gl F w) (hF : ∀ b, F b → F' b) (hp : ∀ b, F b → w'.heap[b]? = w.heap[b]?) : Gl F' w' :=
  ⟨fun g hg => hF g (h.fz g hg), by
    have : (globs.map fun g => w'.heap[g]?) = globs.map fun g => w.heap[g]? := List.map_congr_left fun g hg => hp g (h.fz g hg)
    rw [this]; exact h.ok, fun b cs hb => by
    obtain ⟨h1, t, z, h2⟩ := h.arr b cs hb
    exact ⟨hF b h1, t, z, by rw [hp b h1]; exact h2⟩⟩

theorem Gl.same {F F' : Nat → Prop} {w : World} (h : Gl F w) (hF : ∀ b, F b → F' b) : Gl F' w := h.mono hF fun _ _ => rfl

/-- Abstract memory, as it lies. O: the blocks that the call may write. -/
structure MR (O F : Nat → Prop) (w : World) (B : List Loc) (mem : List Blk) : Prop where
  len : B.length = mem.length
  br : ∀ (i : Nat) (b : Blk) (l : Loc), mem[i]? = some b → B[i]? = some l → BR F w B b l
  sep : ∀ i j b, ownB mem B i = some b → ownB mem B j = some b → i = j
  own : ∀ i b, ownB mem B i = some b → O b ∧ ¬ F b ∧ b < w.heap.size
  fr : ∀ b, F b → b < w.heap.size
  gl : Gl F w

/-- How the world may go on: what is not O stays. -/
structure Ev (O : Nat → Prop) (w w' : World) : Prop where
  os : w'.os = w.os
  tape : w'.tape = w.tape
  output : w'.output = w.output
  size : w.heap.size ≤ w'.heap.size
  block : ∀ k, k < w.heap.size → ¬ O k → w'.heap[k]? = w.heap[k]?

theorem Ev.refl (O : Nat → Prop) (w : World) : Ev O w w := ⟨rfl, rfl, rfl, Nat.le_refl _, fun _ _ _ => rfl⟩
theorem Ev.trans {O : Nat → Prop} {a b c : World} (h : Ev O a b) (k : Ev O b c) : Ev O a c :=
  ⟨k.os.trans h.os, k.tape.trans h.tape, k.output.trans h.output, Nat.le_trans h.size k.size, fun i hi ho => (k.block i (Nat.lt_of_lt_of_le hi h.size) ho).trans (h.block i hi ho)⟩

theorem ownsRow_of_block {w w' : World} {e : TypeId} {sz n : Nat} {g : Option Nat} {m cap : Nat} {xs : List Value} (h : w.ownsRow 0 e sz (head g m cap) n xs) (hb : ∀ b, g = some b → w'.heap[b]? = w.heap[b]?) :
    w'.ownsRow 0 e sz (head g m cap) n xs := by
  obtain ⟨h1, h2⟩ := h
  refine ⟨h1, ?_⟩
  rcases h2 with h2 | ⟨k, c, cur, hv, h3, h4, h5⟩
  · exact .inl h2
  · refine .inr ⟨k, c, cur, hv, h3, ?_, h5⟩
    have : g = some k := by
      cases g with
      | none => simp [head] at hv
      | some b => simp [head] at hv; rw [hv.1]
    rw [hb k this]; exact h4

theorem BR.mono (e : Ext F F' w w' B B') {b : Blk} {l : Loc} (h : BR F w B b l) (hk : b.own = true → ∀ k, l.block = some k → w'.heap[k]? = w.heap[k]?) : BR F' w' B' b l := by
  match b, l, h with
  | .gone, _, _ => trivial
  | .var cs, .var b, ⟨t, xs, h1, h2⟩ => exact ⟨t, xs, by rw [hk rfl b rfl]; exact h1, h2.mono e⟩
  | .tvar t cs, .var b, ⟨xs, h1, h2⟩ => exact ⟨xs, by rw [hk rfl b rfl]; exact h1, h2.mono e⟩
  | .arr t sz es, .arr sz' g n cap, ⟨h1, h2, h3, h4, xs, h5, h6⟩ => exact ⟨h1, h2, h3, h4, xs, ownsRow_of_block h5 (fun k hkk => hk rfl k hkk), h6.mono e.bare⟩
  | .buf t sz es, .arr sz' g n cap, ⟨h1, h2, h3, h4, h5, b, xs, h6, h7, h8⟩ => exact ⟨h1, h2, h3, h4, h5, b, xs, h6, by rw [hk rfl b (by rw [h6]; rfl)]; exact h7, h8.mono e.bare⟩
  | .frz a, .arr _ g n cap, h => exact VR.mono e.bare h
  | .frz a, .wrr _ b off n cap, h => exact VR.mono e.bare h
  | .wrr t sz es, .wrr sz' b off n cap, ⟨h1, h2, h3, h4, h5, h6, cur, xs, h7, h8, h9, h10⟩ => exact ⟨h1, h2, h3, h4, h5, h6, cur, xs, by rw [hk rfl b rfl]; exact h7, h8, h9, h10.mono e.bare⟩
  | .map es, .map b, ⟨ents, clock, h1, h2, h3⟩ => exact ⟨ents, clock, by rw [hk rfl b rfl]; exact h1, h2, h3.mono e⟩

theorem ownB_some {mem : List Blk} {i b : Nat} (h : ownB mem B i = some b) : ∃ k l, mem[i]? = some k ∧ B[i]? = some l ∧ k.own = true ∧ l.block = some b := by
  unfold ownB at h
  split at h
  · rename_i k l h1 h2
    split at h
    · exact ⟨k, l, h1, h2, ‹_›, h⟩
    · simp at h
  · simp at h

theorem ownB_mk {mem : List Blk} {i b : Nat} {k : Blk} {l : Loc} (h1 : mem[i]? = some k) (h2 : B[i]? = some l) (h3 : k.own = true) (h4 : l.block = some b) : ownB mem B i = some b := by
  unfold ownB; simp [h1, h2, h3, h4]

/-- The world goes on, all abstract blocks stay (draws, say). -/
theorem MR.go {O : Nat → Prop} {mem : List Blk} (h : MR O F w B mem) (hs : w.heap.size ≤ w'.heap.size) (hb : ∀ b, (F b ∨ ∃ i, ownB mem B i = some b) → w'.heap[b]? = w.heap[b]?) : MR O F w' B mem := by
  have e : Ext F F w w' B B := ⟨fun _ h => h, fun _ _ h => h, fun b hF => hb b (.inl hF)⟩
  refine ⟨h.len, fun i b l h1 h2 => (h.br i b l h1 h2).mono e (fun ho k hk => hb k (.inr ⟨i, ownB_mk h1 h2 ho hk⟩)), h.sep, fun i b hi => ?_, fun b hF => Nat.lt_of_lt_of_le (h.fr b hF) hs, h.gl.mono (fun _ h => h) e.hp⟩
  obtain ⟨h1, h2, h3⟩ := h.own i b hi
  exact ⟨h1, h2, Nat.lt_of_lt_of_le h3 hs⟩

theorem ext_append (F : Nat → Prop) (w : World) (B : List Loc) (l : List Loc) : Ext F F w w B (B ++ l) :=
  ⟨fun _ h => h, fun i x h => by rw [List.getElem?_append_left (by have := List.getElem?_eq_some_iff.1 h; exact this.1)]; exact h, fun _ _ => rfl⟩

theorem ownB_append_old {mem : List Blk} {m2 : List Blk} {B2 : List Loc} (hl : B.length = mem.length) {i : Nat} (hi : i < mem.length) : ownB (mem ++ m2) (B ++ B2) i = ownB mem B i := by
  unfold ownB
  rw [List.getElem?_append_left hi, List.getElem?_append_left (by omega)]

/-- A new block behind all others. -/
theorem MR.push {O : Nat → Prop} {mem : List Blk} (h : MR O F w B mem) {k : Blk} {l : Loc} (hs : w.heap.size ≤ w'.heap.size) (hb : ∀ b, (F b ∨ ∃ i, ownB mem B i = some b) → w'.heap[b]? = w.heap[b]?)
    (hk : BR F w' (B ++ [l]) k l) (hn : k.own = true → ∀ b, l.block = some b → (∀ i, ownB mem B i ≠ some b) ∧ ¬ F b ∧ b < w'.heap.size ∧ O b) : MR O F w' (B ++ [l]) (mem ++ [k]) := by
  have h' := h.go hs hb
  have e : Ext F F w' w' B (B ++ [l]) := ext_append F w' B [l]
  have hlen := h.len
  have old : ∀ i, i < mem.length → ownB (mem ++ [k]) (B ++ [l]) i = ownB mem B i := fun i hi => ownB_append_old hlen hi
  have lt : ∀ i b, ownB (mem ++ [k]) (B ++ [l]) i = some b → i ≤ mem.length := fun i b hi => by
    obtain ⟨_, _, h1, _⟩ := ownB_some hi
    have := (List.getElem?_eq_some_iff.1 h1).1
    simp at this; omega
  have new : ∀ b, ownB (mem ++ [k]) (B ++ [l]) mem.length = some b → (∀ i, ownB mem B i ≠ some b) ∧ ¬ F b ∧ b < w'.heap.size ∧ O b := fun b hb => by
    obtain ⟨k', l', h1, h2, h3, h4⟩ := ownB_some hb
    rw [List.getElem?_append_right (by omega)] at h1
    rw [← hlen, List.getElem?_append_right (by omega)] at h2
    simp at h1 h2; subst h1; subst h2
    exact hn h3 b h4
  refine ⟨by simp [hlen], ?_, ?_, ?_, h'.fr, h'.gl⟩
  · intro i b l' h1 h2
    by_cases hi : i < mem.length
    · rw [List.getElem?_append_left hi] at h1
      rw [List.getElem?_append_left (by omega)] at h2
      exact (h'.br i b l' h1 h2).mono e (fun _ _ _ => rfl)
    · have h1' := (List.getElem?_eq_some_iff.1 h1).1
      simp at h1'
      have : i = mem.length := by omega
      subst this
      rw [List.getElem?_append_right (by omega)] at h1
      rw [← hlen, List.getElem?_append_right (by omega)] at h2
      simp at h1 h2; subst h1; subst h2
      exact hk
  · intro i j b hi hj
    have li := lt i b hi
    have lj := lt j b hj
    by_cases e1 : i = mem.length
    · by_cases e2 : j = mem.length
      · omega
      · subst e1
        rw [old j (by omega)] at hj
        exact absurd hj ((new b hi).1 j)
    · by_cases e2 : j = mem.length
      · subst e2
        rw [old i (by omega)] at hi
        exact absurd hi ((new b hj).1 i)
      · rw [old i (by omega)] at hi
        rw [old j (by omega)] at hj
        exact h.sep i j b hi hj
  · intro i b hi
    have li := lt i b hi
    by_cases e1 : i = mem.length
    · subst e1
      obtain ⟨_, h1, h2, h3⟩ := new b hi
      exact ⟨h3, h1, h2⟩
    · rw [old i (by omega)] at hi
      obtain ⟨h1, h2, h3⟩ := h.own i b hi
      exact ⟨h1, h2, by omega⟩

/-- A block that is new to all. -/
theorem MR.fresh {O : Nat → Prop} {mem : List Blk} (h : MR O F w B mem) {b : Nat} (hb : w.heap.size ≤ b) : (∀ i, ownB mem B i ≠ some b) ∧ ¬ F b :=
  ⟨fun i hi => by have := (h.own i b hi).2.2; omega, fun hF => by have := h.fr b hF; omega⟩

theorem MR.old {O : Nat → Prop} {mem : List Blk} (h : MR O F w B mem) {b : Nat} (hb : F b ∨ ∃ i, ownB mem B i = some b) : b < w.heap.size := by
  rcases hb with hb | ⟨i, hb⟩
  · exact h.fr b hb
  · exact (h.own i b hb).2.2

mutual
theorem VR.toBare : ∀ {B : List Loc} {a : AV} {x : Value}, VR F w B a x → a.isBare = true → VR F w [] a x
  | _, _, _, .any x, _ => .any x
  | _, _, _, .v x, _ => .v x
  | _, _, _, .agg h, hb => .agg (CR.toBare h hb)
  | _, _, _, .tup h, hb => .tup (CR.toBare h hb)
  | _, _, _, .fslNil base cap, _ => .fslNil base cap
  | _, _, _, .fsl b o cap h hs hF hx hcap, _ => .fsl b o cap h hs hF hx hcap
  | _, _, _, .osl _, hb => by cases hb
  | _, _, _, .oslW _, hb => by cases hb
  | _, _, _, .ptrW _, hb => by cases hb
  | _, _, _, .ptrV _, hb => by cases hb
  | _, _, _, .ptrA _, hb => by cases hb
  | _, _, _, .fptr b a0 o h hF hx, _ => .fptr b a0 o h hF hx
  | _, _, _, .win .., hb => by cases hb
  | _, _, _, .fn h, hb => .fn (CR.toBare h hb)
  | _, _, _, .ifc h, hb => .ifc (VR.toBare h hb)
theorem CR.toBare : ∀ {B : List Loc} {as : List AV} {xs : List Value}, CR F w B as xs → AV.isBareAll as = true → CR F w [] as xs
  | _, _, _, .nil, _ => .nil
  | _, _, _, .cons h t, hb => by
    simp only [AV.isBareAll, Bool.and_eq_true] at hb
    exact .cons (VR.toBare h hb.1) (CR.toBare t hb.2)
end

/-- One block is written: all else stays. -/
theorem MR.write {O : Nat → Prop} {mem : List Blk} (h : MR O F w B mem) {i : Nat} {k0 k : Blk} {l : Loc} {b : Nat} (hi : mem[i]? = some k0) (hl : B[i]? = some l) (ho : k0.own = true) (hlb : l.block = some b)
    (hs : w'.heap.size = w.heap.size) (hb : ∀ c, c ≠ b → w'.heap[c]? = w.heap[c]?) (hk : Ext F F w w' B B → BR F w' B k l) : MR O F w' B (mem.set i k) ∧ Ext F F w w' B B := by
  have hown := h.own i b (ownB_mk hi hl ho hlb)
  have e : Ext F F w w' B B := ⟨fun _ h => h, fun _ _ h => h, fun c hF => hb c (fun hc => hown.2.1 (hc ▸ hF))⟩
  have hlt : i < mem.length := (List.getElem?_eq_some_iff.1 hi).1
  have imp : ∀ j c, ownB (mem.set i k) B j = some c → ownB mem B j = some c := fun j c hj => by
    obtain ⟨k', l', h1, h2, h3, h4⟩ := ownB_some hj
    by_cases hij : i = j
    · subst hij
      rw [hl] at h2; cases h2
      exact ownB_mk hi hl ho h4
    · rw [List.getElem?_set_ne hij] at h1
      exact ownB_mk h1 h2 h3 h4
  refine ⟨⟨by simp [h.len], ?_, fun j j' c h1 h2 => h.sep j j' c (imp j c h1) (imp j' c h2), fun j c hj => ?_, fun c hF => by rw [hs]; exact h.fr c hF, h.gl.mono (fun _ h => h) e.hp⟩, e⟩
  · intro j bj lj h1 h2
    by_cases hij : i = j
    · subst hij
      rw [List.getElem?_set_self hlt] at h1; cases h1
      rw [hl] at h2; cases h2
      exact hk e
    · rw [List.getElem?_set_ne hij] at h1
      refine (h.br j bj lj h1 h2).mono e (fun hoj c hc => hb c (fun hcb => ?_))
      subst hcb
      exact hij (h.sep i j c (ownB_mk hi hl ho hlb) (ownB_mk h1 h2 hoj hc))
  · obtain ⟨h1, h2, h3⟩ := h.own j c (imp j c hj)
    exact ⟨h1, h2, by omega⟩

/-- A block is forgotten. -/
theorem MR.forget {O : Nat → Prop} {mem : List Blk} (h : MR O F w B mem) (i : Nat) : MR O F w B (mem.set i .gone) := by
  have imp : ∀ j c, ownB (mem.set i .gone) B j = some c → ownB mem B j = some c := fun j c hj => by
    obtain ⟨k', l', h1, h2, h3, h4⟩ := ownB_some hj
    by_cases hij : i = j
    · subst hij
      by_cases hlt : i < mem.length
      · rw [List.getElem?_set_self hlt] at h1; cases h1; cases h3
      · rw [List.getElem?_eq_none (by simp; omega)] at h1; cases h1
    · rw [List.getElem?_set_ne hij] at h1
      exact ownB_mk h1 h2 h3 h4
  refine ⟨by simp [h.len], ?_, fun j j' c h1 h2 => h.sep j j' c (imp j c h1) (imp j' c h2), fun j c hj => h.own j c (imp j c hj), h.fr, h.gl⟩
  intro j bj lj h1 h2
  by_cases hij : i = j
  · subst hij
    by_cases hlt : i < mem.length
    · rw [List.getElem?_set_self hlt] at h1; cases h1; trivial
    · rw [List.getElem?_eq_none (by simp; omega)] at h1; cases h1
  · rw [List.getElem?_set_ne hij] at h1
    exact h.br j bj lj h1 h2

end
end Go.Proofs.YtajpaagbfmjacaaGreatDoor.Am
/-
  THE ABSTRACT MACHINE, SECOND PART: the abstract operations, how the model's operations are made into them, and what each of them does. No program is named here.
-/
namespace Go.Proofs.YtajpaagbfmjacaaGreatDoor.Am
set_option linter.unusedSimpArgs false
set_option linter.unusedVariables false
open Go

/-- An operand. -/
inductive AOpd where
  | t (n : Nat)
  | c (v : Value)
  deriving Inhabited

def AOpd.ev (ts : Nat → AV) : AOpd → AV
  | .t n => ts n
  | .c v => .v v

/-- The kind of a cell that can be compared. -/
inductive EK where
  | i | s | b

inductive AOp where
  | mov (x : AOpd)
  | pick (c a b : AOpd)
  | alloc (z : List Value)
  | box (x : AOpd)
  | bld (z : List Value) (parts : List (Nat × Nat × AOpd))
  | bsl (t sz : Nat) (parts : List AOpd)
  | ld (g : Bool) (n : Nat) (a : AOpd)
  | st (n : Nat) (a x : AOpd)
  | chk (x : AOpd)
  | bin (tb : Bool) (op : BinOp) (x y : AOpd)
  | eqs (neg : Bool) (ks : List EK) (x y : AOpd)
  | un (op : UnOp) (x : AOpd)
  | cvt (k : IntKind) (x : AOpd)
  | cvs (x : AOpd)
  | b2s (x : AOpd)
  | s2b (t : Nat) (x : AOpd)
  | mki (t : Nat) (x : AOpd)
  | slc (s : Bool) (sz : Nat) (x : AOpd) (lo hi : Option AOpd)
  | fad (off : Nat) (x : AOpd)
  | fld (g : Bool) (off n : Nat) (x : AOpd)
  | iax (sz : Nat) (x i : AOpd)
  | iaa (len sz : Nat) (x i : AOpd)
  | ixs (x i : AOpd)
  | ixa (len sz : Nat) (g : Bool) (x i : AOpd)
  | ext (k : Nat) (x : AOpd)
  | call (f : FuncId) (xs : List AOpd)
  | calv (f : AOpd) (xs : List AOpd)
  | len (s : Bool) (x : AOpd)
  | lenA (n : Nat)
  | app (t sz byt : Nat) (s x : AOpd)
  | aps (t : Nat) (s x : AOpd)
  | mnn (xs : List AOpd)
  | mxx (xs : List AOpd)
  | pan (x : AOpd)
  | mkf (f : FuncId) (caps : List AOpd)
  | isn (p neg : Bool) (x : AOpd)
  | isi (neg : Bool) (x : AOpd)
  | mkm
  | lkp (z : Value) (ok : Bool) (m k : AOpd)
  | mup (m k v : AOpd)
  | cap (x : AOpd)
  | cpy (sz : Nat) (d s : AOpd)
  | ap0 (t sz byt : Nat) (z : List Value) (s k : AOpd)
  | clr (z : List Value) (x : AOpd)
  | sl3 (sz : Nat) (x : AOpd) (lo hi mx : Option AOpd)
  /-- what package strings' Builder does -/
  | alc (t : Nat) (z : List Value)
  | cup (x : AOpd)
  | cpu (u k : Nat) (x : AOpd)
  | eqp (neg : Bool) (x y : AOpd)
  | usd (x : AOpd)
  | ust (e : Nat) (p n : AOpd)
  /-- one that this machine does not know -/
  | bad
  /-- a slice from an element on -/
  | slo (sz : Nat) (x lo : AOpd)
  /-- a slice of so many, all nought, of one cell each -/
  | mks (t byt : Nat) (v : Value) (l c : AOpd)
  /-- a whole array as a slice -/
  | sla (n : Nat) (x : AOpd)
  deriving Inhabited

/-! ### How the model's operations are made into them -/
def compOpd : Operand → AOpd
  | .tmp t => .t t
  | .const v => .c v
  | .global g => .c (.pointer (some ⟨g, 0, none⟩))
  | .func f => .c (.func (.func f) #[] #[])

section
variable (P : Program)
def szOf (t : TypeId) : Option Nat := (P.info? t).map (·.size)
def aggOf (t : TypeId) : Bool := match P.underlying t with | some (.struct _) | some (.array _ _) => true | _ => false
/-- Is it a struct or an array, and how many cells has it? -/
def kOf (t : TypeId) : Option (Bool × Nat) := match P.underlying t, szOf P t with | some _, some n => some (aggOf P t, n) | _, _ => none
def zeroOf (t : TypeId) : Option (List Value) := ((P.info? t).bind (·.zero)).map fun z => z.cells.toList
def structOf (t : TypeId) : Option (Array Field) := match P.underlying t with | some (.struct fs) => some fs | _ => none
def elemOf? (t : TypeId) : Option TypeId := match P.underlying t with | some (.slice e) => some e | _ => none
def isInt (t : TypeId) : Bool := match P.underlying t with | some (.int _) => true | _ => false
def isBool (t : TypeId) : Bool := match P.underlying t with | some .bool => true | _ => false
def isStr (t : TypeId) : Bool := match P.underlying t with | some .string => true | _ => false
def isU8 (t : TypeId) : Bool := match P.underlying t with | some (.int .u8) => true | _ => false

def fieldsK (K : TypeId → Option (List EK)) : List Field → Nat → Option (List EK)
  | [], _ => some []
  | f :: r, o => match K f.type, kOf P f.type with
    | some ks, some n => if f.offset = o ∧ n.2 = ks.length ∧ f.name ≠ "_" then (fieldsK K r (o + n.2)).map (ks ++ ·) else none
    | _, _ => none

/-- The kinds of the cells of a type all whose values are numbers, texts and bools. -/
def flatK : Nat → TypeId → Option (List EK)
  | 0, _ => none
  | d + 1, t => match P.underlying t with
    | some (.int _) => some [.i]
    | some .string => some [.s]
    | some .bool => some [.b]
    | some (.struct fs) => if P.stoodInHeld t then none else fieldsK P (flatK d) fs.toList 0
    | some (.array n e) => match flatK d e, kOf P e with
      | some ks, some m => if m.2 = ks.length ∧ m.2 ≠ 0 then some (List.replicate n ks).flatten else none
      | _, _ => none
    | _ => none

def partsS (fs : Array Field) : List (Nat × Operand) → Option (List (Nat × Nat × AOpd))
  | [] => some []
  | (i, x) :: r => match fs[i]?, partsS fs r with
    | some f, some q => (szOf P f.type).map fun n => (f.offset, n, compOpd x) :: q
    | _, _ => none

def isZ8 : Value → Bool
  | .int .u8 0 => true
  | _ => false

def compApp : List Operand → List TypeId → Option AOp
  | [s, x], [t, u] =>
    match elemOf? P t with
    | some e => match P.info? e with
      | some i => match i.zero with
        | some z => if z.cells.size == i.size && i.size != 0 then
            (if t == u then some (.app e i.size i.bytes (compOpd s) (compOpd x))
             else if isInt P u && z.cells.toList.all Value.oneCell' then some (.ap0 e i.size i.bytes z.cells.toList (compOpd s) (compOpd x))
             else if isStr P u && isZ8 z && i.size == 1 && i.bytes == 1 then some (.aps e (compOpd s) (compOpd x)) else none)
          else none
        | none => none
      | none => none
    | none => none
  | _, _ => none

/-- Is it a comparison with nil? -/
def nilC (t : TypeId) (op : BinOp) (y : Operand) : Option (Bool × Bool) :=
  match P.underlying t, y, op with
  | some (.slice _), .const (.slice none _ _), .eql => some (false, false)
  | some (.slice _), .const (.slice none _ _), .neq => some (false, true)
  | some (.pointer _), .const (.pointer none), .eql => some (true, false)
  | some (.pointer _), .const (.pointer none), .neq => some (true, true)
  | _, _, _ => none

def nilI (t : TypeId) (op : BinOp) (y : Operand) : Option Bool :=
  match P.underlying t, y, op with
  | some (.interface _), .const .nilIface, .eql => some false
  | some (.interface _), .const .nilIface, .neq => some true
  | _, _, _ => none

def compCpy : List Operand → List TypeId → Option AOp
  | [d, s], [t, u] => match elemOf? P t, elemOf? P u with
    | some e, some _ => (szOf P e).map fun n => .cpy n (compOpd d) (compOpd s)
    | _, _ => none
  | _, _ => none
def compClr : List Operand → List TypeId → Option AOp
  | [x], [t] => match elemOf? P t with
    | some e => (zeroOf P e).bind fun z => if z.all Value.oneCell' = true then some (.clr z (compOpd x)) else none
    | none => none
  | _, _ => none

def compOp0 (type : TypeId) : Op → Option AOp
  | .move x | .assign x => some (.mov (compOpd x))
  | .pick c a b => some (.pick (compOpd c) (compOpd a) (compOpd b))
  | .alloc t => (zeroOf P t).map .alloc
  | .box _ x => some (.box (compOpd x))
  | .build t parts =>
    match zeroOf P t, P.underlying t with
    | some z, some (.struct fs) => if fs.all (fun (f : Field) => (szOf P f.type).isSome) then (partsS P fs parts.toList).map fun ps => .bld z ps else none
    | some z, some (.array _ e) => (szOf P e).map fun n => .bld z (parts.toList.map fun (i, x) => (i * n, n, compOpd x))
    | _, _ => none
  | .buildSlice t len parts =>
    match elemOf? P t with
    | some e => match szOf P e, zeroOf P e with
      | some n, some z => if n != 0 && z.length == n && parts.toList.map (·.1) == List.range len && len * n ≤ 16777216 then some (.bsl e n (parts.toList.map fun p => compOpd p.2)) else none
      | _, _ => none
    | none => none
  | .load t a => (kOf P t).map fun k => .ld k.1 k.2 (compOpd a)
  | .store t a x => (szOf P t).map fun n => .st n (compOpd a) (compOpd x)
  | .nilCheck x => some (.chk (compOpd x))
  | .binOp op t x y _ => if aggOf P t then (match op with
      | .eql => if P.eqGuardType P.depth t then none else (flatK P 6 t).map fun ks => .eqs false ks (compOpd x) (compOpd y)
      | .neq => if P.eqGuardType P.depth t then none else (flatK P 6 t).map fun ks => .eqs true ks (compOpd x) (compOpd y)
      | _ => none) else match nilC P t op y with
      | some q => some (.isn q.1 q.2 (compOpd x))
      | none => match nilI P t op y with
        | some neg => some (.isi neg (compOpd x))
        | none => some (.bin (isBool P t) op (compOpd x) (compOpd y))
  | .unOp op _ x => some (.un op (compOpd x))
  | .convert s d x =>
    match P.underlying s, P.underlying d with
    | some (.int _), some (.int k) => some (.cvt k (compOpd x))
    | some .string, some .string => some (.cvs (compOpd x))
    | some (.slice e), some .string => if isU8 P e then some (.b2s (compOpd x)) else none
    | some .string, some (.slice e) => if isU8 P e then some (.s2b e (compOpd x)) else none
    | _, _ => none
  | .makeInterface t x => match P.underlying t with
    | some (.interface _) | none => none
    | _ => some (.mki t (compOpd x))
  | .slice t x lo hi none => match P.underlying t with
    | some .string => some (.slc true 0 (compOpd x) (lo.map compOpd) (hi.map compOpd))
    | some (.slice e) => (szOf P e).map fun n => .slc false n (compOpd x) (lo.map compOpd) (hi.map compOpd)
    | _ => none
  | .slice t x lo (some hi) (some mx) => match P.underlying t with
    | some (.slice e) => (szOf P e).map fun n => .sl3 n (compOpd x) (lo.map compOpd) (some (compOpd hi)) (some (compOpd mx))
    | _ => none
  | .fieldAddr s x i => match structOf P s with
    | some fs => (fs[i]?).bind fun f => match szOf P f.type with | some (_ + 1) => some (.fad f.offset (compOpd x)) | _ => none
    | none => none
  | .field s x i => match structOf P s with
    | some fs => (fs[i]?).bind fun f => (kOf P f.type).map fun k => .fld k.1 f.offset k.2 (compOpd x)
    | none => none
  | .indexAddr t x i => match P.underlying t with
    | some (.slice e) => (szOf P e).map fun n => .iax n (compOpd x) (compOpd i)
    | some (.array len e) => (szOf P e).map fun n => .iaa len n (compOpd x) (compOpd i)
    | _ => none
  | .index t x i => match P.underlying t with
    | some .string => some (.ixs (compOpd x) (compOpd i))
    | some (.array len e) => (kOf P e).map fun k => .ixa len k.2 k.1 (compOpd x) (compOpd i)
    | _ => none
  | .extract x k => some (.ext k (compOpd x))
  | .panic x => some (.pan (compOpd x))
  | .makeFunc (.func f) first caps => if first.isEmpty then some (.mkf f (caps.toList.map compOpd)) else none
  | .makeMap t none => match P.underlying t with
    | some (.map _ _) => some .mkm
    | _ => none
  | .lookup t x i ok => match P.underlying t with
    | some (.map k e) => if isStr P k then ((P.info? e).bind (·.zero)).map fun z => .lkp z ok (compOpd x) (compOpd i) else none
    | _ => none
  | .mapUpdate t m k x => match P.underlying t with
    | some (.map kt _) => if isStr P kt then some (.mup (compOpd m) (compOpd k) (compOpd x)) else none
    | _ => none
  | .call { callee := .value (.func f), args, .. } => some (.call f (args.toList.map compOpd))
  | .call { callee := .value x, args, .. } => some (.calv (compOpd x) (args.toList.map compOpd))
  | .call { callee := .builtin .len, args, argTypes } =>
    match argTypes[0]?, args[0]? with
    | some t, some x => match P.underlying t with
      | some .string => some (.len true (compOpd x))
      | some (.slice _) => some (.len false (compOpd x))
      | some (.array n _) => some (.lenA n)
      | _ => none
    | _, _ => none
  | .call { callee := .builtin .cap, args, argTypes } => match argTypes[0]?, args[0]? with
    | some t, some x => (elemOf? P t).map fun _ => .cap (compOpd x)
    | _, _ => none
  | .call { callee := .builtin .copy, args, argTypes } => compCpy P args.toList argTypes.toList
  | .call { callee := .builtin .clear, args, argTypes } => compClr P args.toList argTypes.toList
  | .call { callee := .builtin .append, args, argTypes } => compApp P args.toList argTypes.toList
  | .call { callee := .builtin .min, args, .. } => some (.mnn (args.toList.map compOpd))
  | .call { callee := .builtin .max, args, .. } => some (.mxx (args.toList.map compOpd))
  | _ => none

/-- What the machine does not know stands for itself: it is never run. -/
def isSB (t : TypeId) : Bool := match structOf P t with
  | some fs => match fs[0]? with
    | some f => match P.underlying f.type with
      | some (.pointer u) => u == t
      | _ => false
    | none => false
  | none => false
/-- What is read ahead of the others: package strings' Builder. -/
def compOpB : Op → Option AOp
  | .alloc t => if isSB P t then (zeroOf P t).map (.alc t) else none
  | .slice t x (some lo) none none => match P.underlying t with
    | some (.slice e) => (szOf P e).map fun n => .slo n (compOpd x) (compOpd lo)
    | _ => none
  | .makeSlice t l c => match elemOf? P t with
    | some e => match P.info? e with
      | some i => match i.zero with
        | some z => match z.cells.toList with
          | [v] => if i.size = 1 then some (.mks e i.bytes v (compOpd l) (compOpd c)) else none
          | _ => none
        | none => none
      | none => none
    | none => none
  | .slice t x none none none => match P.underlying t with
    | some (.array n e) => if szOf P e = some 1 then some (.sla n (compOpd x)) else none
    | _ => none
  | .convert s d x => match P.underlying s, P.underlying d with
    | some (.pointer t), some .unsafePointer => match P.info? t with
      | some j => if j.size ≠ 0 then some (.cup (compOpd x)) else none
      | none => none
    | some .unsafePointer, some (.pointer u) => if (P.info? u).isSome ∧ liesAt P P.depth u (P.cellsOf u / P.cellsOf u) 0 u 1 = true then some (.cpu u (P.cellsOf u) (compOpd x)) else none
    | _, _ => none
  | .binOp op t x y _ => match nilC P t op y, P.underlying t with
    | none, some (.pointer e) => if (P.info? e).isSome then (match op with
      | .eql => some (.eqp false (compOpd x) (compOpd y))
      | .neq => some (.eqp true (compOpd x) (compOpd y))
      | _ => none) else none
    | _, _ => none
  | .call { callee := .builtin .unsafeSliceData, args, .. } => match args.toList with
    | [x] => some (.usd (compOpd x))
    | _ => none
  | .call { callee := .builtin .unsafeString, args, argTypes } => match args.toList, argTypes.toList with
    | [p, n], [pt, _] => match P.underlying pt with
      | some (.pointer e) => if P.cellsOf e = 1 then some (.ust e (compOpd p) (compOpd n)) else none
      | _ => none
    | _, _ => none
  | _ => none
def compOp (type : TypeId) (o : Op) : Option AOp := some (match compOpB P o with
  | some op => op
  | none => (compOp0 P type o).getD .bad)

/-- An operation with its place, its guard (by the slot that it looks at) and what comes before it. -/
structure AOper where
  dst : Option Nat
  op : AOp
  guard : Option (Nat × Bool)
  /-- the slots that nobody looks at any more (a note of the one who evaluates) -/
  kill : List Nat := []
  deriving Inhabited

def compOper (ops : Array Oper) (o : Oper) : Option AOper :=
  match compOp P o.type o.op with
  | none => none
  | some op => match o.guard with
    | none => some ⟨o.dst, op, none, []⟩
    | some (j, b) => ((ops[j]?).bind (·.dst)).map fun d => ⟨o.dst, op, some (d, b), []⟩

/-- In which orders operations are looked at, where the machine may choose one. -/
inductive Plan where
  | done
  | stop
  | tak (i : Nat) (o : AOper) (next : Plan)
  | alt (i : Nat) (o : AOper) (next others : Plan)

inductive ACode where
  | skip
  | region (draw : Bool) (pre : List (List Nat)) (ops : List AOper)
  | draws (plan : Plan) (pre : List (List Nat)) (ops : List AOper)
  | seq (a b : ACode)
  | cond (c : AOpd) (a b : ACode)
  | block (id : Nat) (b : ACode)
  | loop (keep : List Nat) (b : ACode)
  | drop (ks : List Nat) (b : ACode)
  | pack (keep : List Nat) (b : ACode)
  | seal_ (d : Nat) (b : ACode)
  | open_ (d : Nat) (b : ACode)
  | close_ (d : Nat) (b : ACode)
  | conc (d : Nat) (b : ACode)
  | exit (id : Nat)
  | ret
  | bad
  deriving Inhabited

def preOf (ops : List Oper) : List (List Nat) := ops.map fun o => (o.after.toList.filter (Region.binds .any ·)).map (·.on)

def compCode : Code → Option ACode
  | .skip => some .skip
  | .region _ ops draw => (ops.toList.mapM (compOper P ops)).map fun l => .region draw (if draw then preOf ops.toList else []) l
  | .seq a b => match compCode a, compCode b with | some x, some y => some (.seq x y) | _, _ => none
  | .cond c a b => match compCode a, compCode b with | some x, some y => some (.cond (compOpd c) x y) | _, _ => none
  | .block id b => (compCode b).map (.block id)
  | .loop b => (compCode b).map (.loop [])
  | .exit id => some (.exit id)
  | .ret => some .ret
  | .refuse _ => some .bad
  | _ => none
end

/-! ### What they do -/
inductive Res where
  | ret (a : AV)
  | pan (a : AV)

abbrev Spec := List AV → List Blk → Option (Res × List Blk)

/-- Is it the value of one cell? -/
def AV.one : AV → Bool
  | .v x => x.oneCell'
  | .any | .agg _ | .tup _ => false
  | _ => true

/-- Are its cells known? -/
def AV.shaped : AV → Bool
  | .agg cs => cs.all AV.one
  | a => a.one

mutual
/-- Its slices are given away: nobody writes them any more. -/
def AV.frz (mem : List Blk) : AV → AV
  | .agg cs => .agg (AV.frzAll mem cs)
  | .tup cs => .tup (AV.frzAll mem cs)
  | .osl id => match mem[id]? with
    | some (.arr _ sz es) => .fsl sz es
    | some (.wrr _ sz es) => .fsl sz es
    | some (.frz a) => a
    | _ => .osl id
  | .v (.slice none 0 0) => .fsl 0 []
  | a => a
def AV.frzAll (mem : List Blk) : List AV → List AV
  | [] => []
  | a :: as => a.frz mem :: AV.frzAll mem as
end

mutual
/-- The same, where nil stays nil. -/
def AV.kfz (mem : List Blk) : AV → AV
  | .agg cs => .agg (AV.kfzAll mem cs)
  | .tup cs => .tup (AV.kfzAll mem cs)
  | .osl id => match mem[id]? with
    | some (.arr _ sz es) => .fsl sz es
    | some (.wrr _ sz es) => .fsl sz es
    | some (.frz a) => a
    | _ => .osl id
  | a => a
def AV.kfzAll (mem : List Blk) : List AV → List AV
  | [] => []
  | a :: as => a.kfz mem :: AV.kfzAll mem as
end

mutual
/-- The slices of its own that it names. -/
def AV.slices : AV → List Nat
  | .agg cs | .tup cs => AV.slicesAll cs
  | .osl id => [id]
  | _ => []
def AV.slicesAll : List AV → List Nat
  | [] => []
  | a :: as => a.slices ++ AV.slicesAll as
end

def Blk.freeze : Blk → Blk
  | .arr _ sz es => .frz (.fsl sz es)
  | .wrr _ sz es => .frz (.fsl sz es)
  | b => b

def freezeIds : List Nat → List Blk → List Blk
  | [], mem => mem
  | i :: is, mem => freezeIds is (mem.modify i Blk.freeze)

mutual
/-- The same value, where every block that it names has another number. -/
def AV.mapId (f : Nat → Nat) : AV → AV
  | .agg cs => .agg (AV.mapIdAll f cs)
  | .tup cs => .tup (AV.mapIdAll f cs)
  | .fn g cs => .fn g (AV.mapIdAll f cs)
  | .osl id => .osl (f id)
  | .ptr id i o => .ptr (f id) i o
  | .ifc t a => .ifc t (a.mapId f)
  | .any => .any
  | .v x => .v x
  | .fsl sz es => .fsl sz es
  | .fptr e o => .fptr e o
  | .win id off n => .win (f id) off n
def AV.mapIdAll (f : Nat → Nat) : List AV → List AV
  | [] => []
  | a :: as => a.mapId f :: AV.mapIdAll f as
end

mutual
/-- The blocks that it names. -/
def AV.ids : AV → List Nat
  | .agg cs => AV.idsAll cs
  | .tup cs => AV.idsAll cs
  | .fn _ cs => AV.idsAll cs
  | .osl id => [id]
  | .ptr id _ _ => [id]
  | .ifc _ a => a.ids
  | .any => []
  | .v _ => []
  | .fsl .. => []
  | .fptr .. => []
  | .win id _ _ => [id]
def AV.idsAll : List AV → List Nat
  | [] => []
  | a :: as => a.ids ++ AV.idsAll as
end

mutual
/-- Its given-away slices are told as such. -/
def AV.res (mem : List Blk) : AV → AV
  | .agg cs => .agg (AV.resAll mem cs)
  | .tup cs => .tup (AV.resAll mem cs)
  | .fn g cs => .fn g (AV.resAll mem cs)
  | .osl id => match mem[id]? with
    | some (.frz a) => a
    | _ => .osl id
  | .ptr id i o => .ptr id i o
  | .ifc t a => .ifc t (a.res mem)
  | .any => .any
  | .v x => .v x
  | .fsl sz es => .fsl sz es
  | .fptr e o => .fptr e o
  | .win id off n => .win id off n
def AV.resAll (mem : List Blk) : List AV → List AV
  | [] => []
  | a :: as => a.res mem :: AV.resAll mem as
end

def Blk.mapId (f : Nat → Nat) : Blk → Blk
  | .var cs => .var (AV.mapIdAll f cs)
  | .tvar t cs => .tvar t (AV.mapIdAll f cs)
  | .gone => .gone
  | .arr t sz es => .arr t sz es
  | .frz a => .frz a
  | .buf t sz es => .buf t sz es
  | .map es => .map (es.map fun e => (e.1, e.2.mapId f))
  | .wrr t sz es => .wrr t sz es

def Blk.ids : Blk → List Nat
  | .var cs => AV.idsAll cs
  | .tvar _ cs => AV.idsAll cs
  | .gone => []
  | .arr .. => []
  | .frz _ => []
  | .buf .. => []
  | .map es => AV.idsAll (es.map (·.2))
  | .wrr .. => []

def addNew (acc : List Nat) : List Nat → List Nat
  | [] => acc
  | i :: is => if i ∈ acc then addNew acc is else addNew (acc ++ [i]) is

/-- The blocks that blocks name, so many steps far. -/
def closeIds (mem : List Blk) : Nat → List Nat → List Nat
  | 0, ids => ids
  | n + 1, ids => closeIds mem n (addNew ids (ids.flatMap fun i => (mem.getD i .gone).ids))

/-- Are these numbers all that is needed? -/
def subOk (ids : List Nat) (mem : List Blk) (named : List Nat) : Bool :=
  decide ids.Nodup && ids.all (· < mem.length) && named.all (ids.contains ·) && ids.all fun i => (mem.getD i .gone).ids.all (ids.contains ·)

/-- The place of a number in a list of numbers. -/
def idx (ids : List Nat) (i : Nat) : Nat := ids.idxOf i

def subM (ids : List Nat) (mem : List Blk) : List Blk := ids.map fun i => (mem.getD i .gone).mapId (idx ids)

def back (ids : List Nat) (n i : Nat) : Nat := if i < ids.length then ids.getD i 0 else n + (i - ids.length)

/-- The blocks come back, each to its place. -/
def putM : List Nat → List Blk → List Blk → List Blk
  | i :: is, b :: bs, mem => putM is bs (mem.set i b)
  | _, _, mem => mem

def intOf? : AV → Option Int
  | .v (.int _ n) => some n
  | _ => none

/-- What a slice of any kind has. -/
def elems (mem : List Blk) : AV → Option (Nat × List AV)
  | .fsl sz es => some (sz, es)
  | .osl id => match mem[id]? with
    | some (.arr _ sz es) => some (sz, es)
    | some (.frz (.fsl sz es)) => some (sz, es)
    | some (.wrr _ sz es) => some (sz, es)
    | _ => none
  | .v (.slice _ 0 _) => some (0, [])
  | _ => none

/-- Cells behind a pointer. -/
def cellsAt (mem : List Blk) (n : Nat) : AV → Option (List AV)
  | .ptr id i o => match mem[id]? with
    | some (.var cs) => if i = 0 ∧ o + n ≤ cs.length then some ((cs.drop o).take n) else none
    | some (.tvar _ cs) => if i = 0 ∧ o + n ≤ cs.length then some ((cs.drop o).take n) else none
    | some (.arr _ _ es) => match es[i]? with
      | some e => if o + n ≤ e.cells.length then some ((e.cells.drop o).take n) else none
      | none => none
    | some (.wrr _ _ es) => match es[i]? with
      | some e => if o + n ≤ e.cells.length then some ((e.cells.drop o).take n) else none
      | none => none
    | _ => none
  | .fptr e o => if o + n ≤ e.cells.length then some ((e.cells.drop o).take n) else none
  | _ => none

def mk (g : Bool) (cs : List AV) : Option AV :=
  if g then some (.agg cs) else match cs with
    | [c] => some c
    | _ => none

def splice (cs : List AV) (o : Nat) (new : List AV) : List AV := cs.take o ++ new ++ cs.drop (o + new.length)

/-- An element with other cells. -/
def AV.recell : AV → List AV → AV
  | .agg _, cs => .agg cs
  | a, cs => cs.headD a

def putAt (mem : List Blk) (new : List AV) : AV → Option (List Blk)
  | .ptr id i o => match mem[id]? with
    | some (.var cs) => if i = 0 ∧ o + new.length ≤ cs.length then some (mem.set id (.var (splice cs o new))) else none
    | some (.tvar t cs) => if i = 0 ∧ o + new.length ≤ cs.length then some (mem.set id (.tvar t (splice cs o new))) else none
    | some (.arr t sz es) => match es[i]? with
      | some e => if o + new.length ≤ e.cells.length ∧ AV.isBareAll new = true then some (mem.set id (.arr t sz (es.set i (e.recell (splice e.cells o new))))) else none
      | none => none
    | _ => none
  | _ => none

def fillA (cells : List AV) : List (Nat × Nat × AV) → Option (List AV)
  | [] => some cells
  | (off, n, v) :: rest => if v.shaped = true ∧ v.cells.length = n ∧ off + n ≤ cells.length then fillA (splice cells off v.cells) rest else none

def strBytes (s : ByteArray) : List UInt8 := s.data.toList

@[reducible] def andI (k : IntKind) (a b : Int) : Int := k.wrap (BitVec.ofInt k.bits a &&& BitVec.ofInt k.bits b).toNat
@[reducible] def orI (k : IntKind) (a b : Int) : Int := k.wrap (BitVec.ofInt k.bits a ||| BitVec.ofInt k.bits b).toNat
@[reducible] def xorI (k : IntKind) (a b : Int) : Int := k.wrap (BitVec.ofInt k.bits a ^^^ BitVec.ofInt k.bits b).toNat
@[reducible] def andNotI (k : IntKind) (a b : Int) : Int := k.wrap (BitVec.ofInt k.bits a &&& ~~~(BitVec.ofInt k.bits b)).toNat
@[reducible] def notI (k : IntKind) (n : Int) : Int := k.wrap (BitVec.ofInt k.bits (if k.signed then -1 else k.max) ^^^ BitVec.ofInt k.bits n).toNat

/-- Operators on values of one cell. -/
def binI (op : BinOp) (k : IntKind) (a : Int) (k' : IntKind) (b : Int) : Option Value :=
  match op with
  | .shl => if 0 ≤ b then some (.int k (k.wrap (a * 2 ^ (min b.toNat k.bits)))) else none
  | .shr => if 0 ≤ b then some (.int k (a.fdiv (2 ^ (min b.toNat k.bits)))) else none
  | .add => if k = k' then some (.int k (k.wrap (a + b))) else none
  | .sub => if k = k' then some (.int k (k.wrap (a - b))) else none
  | .mul => if k = k' then some (.int k (k.wrap (a * b))) else none
  | .quo => if k = k' ∧ b ≠ 0 then some (.int k (k.wrap (a.tdiv b))) else none
  | .rem => if k = k' ∧ b ≠ 0 then some (.int k (a.tmod b)) else none
  | .and => if k = k' then some (.int k (andI k a b)) else none
  | .or => if k = k' then some (.int k (orI k a b)) else none
  | .xor => if k = k' then some (.int k (xorI k a b)) else none
  | .andNot => if k = k' then some (.int k (andNotI k a b)) else none
  | .eql => if k = k' then some (.bool (a == b)) else none
  | .neq => if k = k' then some (.bool (a != b)) else none
  | .lss => if k = k' then some (.bool (decide (a < b))) else none
  | .leq => if k = k' then some (.bool (decide (a ≤ b))) else none
  | .gtr => if k = k' then some (.bool (decide (b < a))) else none
  | .geq => if k = k' then some (.bool (decide (b ≤ a))) else none
def binF (op : BinOp) (k : FloatKind) (a : Nat) (k' : FloatKind) (b : Nat) : Option Value :=
  match op with
  | .eql => if k = k' then some (.bool (k.format.order a b == some .eq)) else none
  | .neq => if k = k' then some (.bool (k.format.order a b != some .eq)) else none
  | _ => none
def binS (op : BinOp) (a b : ByteArray) : Option Value :=
  match op with
  | .add => if a.size + b.size ≤ 9223372036854775807 then some (.string (a ++ b)) else none
  | .eql => some (.bool (a == b))
  | .neq => some (.bool (a != b))
  | _ => none
def binB (tb : Bool) (op : BinOp) (a b : Bool) : Option Value :=
  match op with
  | .eql => if tb = true then some (.bool (a == b)) else none
  | .neq => if tb = true then some (.bool (a != b)) else none
  | _ => none
def binV (tb : Bool) (op : BinOp) : Value → Value → Option Value
  | .int k a, .int k' b => binI op k a k' b
  | .float k a, .float k' b => binF op k a k' b
  | .string a, .string b => binS op a b
  | .bool a, .bool b => binB tb op a b
  | _, _ => none

def unV : UnOp → Value → Option Value
  | .not, .bool b => some (.bool !b)
  | .neg, .int k n => some (.int k (k.wrap (0 - n)))
  | .xor, .int k n => some (.int k (notI k n))
  | _, _ => none

/-- Are the cells the same, one by one? -/
def eqCells : List EK → List AV → List AV → Option Bool
  | [], [], [] => some true
  | .i :: ks, .v (.int k a) :: r, .v (.int k' b) :: s => if k = k' then (eqCells ks r s).map (a == b && ·) else none
  | .s :: ks, .v (.string a) :: r, .v (.string b) :: s => (eqCells ks r s).map (a == b && ·)
  | .b :: ks, .v (.bool a) :: r, .v (.bool b) :: s => (eqCells ks r s).map (a == b && ·)
  | _, _, _ => none

/-- The bytes of a slice of bytes. -/
def bytesOf : List AV → Option (List UInt8)
  | [] => some []
  | .v (.int .u8 n) :: r => (bytesOf r).map (UInt8.ofNat n.toNat :: ·)
  | _ => none

/-- Bytes that are some. -/
def bytesIn : List AV → Bool
  | [] => true
  | .v (.int .u8 n) :: r => decide (0 ≤ n) && decide (n < 256) && bytesIn r
  | _ :: _ => false
def minI : AV → List AV → Option AV
  | x, [] => some x
  | .v (.int k a), .v (.int _ b) :: r => minI (.v (.int k (if b < a then b else a))) r
  | _, _ => none
def maxI : AV → List AV → Option AV
  | x, [] => some x
  | .v (.int k a), .v (.int _ b) :: r => maxI (.v (.int k (if a < b then b else a))) r
  | _, _ => none

/-- For each function: which arguments keep their blocks, and what a call does. -/
abbrev Env := FuncId → Option (List Bool × Spec)

/-- The slices that are given away with the arguments. -/
def fzOf : List Bool → List AV → List Nat
  | true :: ms, _ :: as => fzOf ms as
  | false :: ms, a :: as => a.slices ++ fzOf ms as
  | [], as => AV.slicesAll as
  | _ :: _, [] => []

def prepA (mem : List Blk) : List Bool → List AV → List AV
  | true :: ms, a :: as => a :: prepA mem ms as
  | false :: ms, a :: as => a.res mem :: prepA mem ms as
  | [], as => AV.resAll mem as
  | _ :: _, [] => []

def Res.mapId (f : Nat → Nat) : Res → Res
  | .ret a => .ret (a.mapId f)
  | .pan a => .pan (a.mapId f)

def callB (sp : Spec) (m1 : List Blk) (as : List AV) (ids : List Nat) : Option (Res × List Blk) :=
  if subOk ids m1 (AV.idsAll as) = true then
    match sp (AV.mapIdAll (idx ids) as) (subM ids m1) with
    | some (r, mo) => if ids.length ≤ mo.length then some (r.mapId (back ids m1.length), putM ids ((mo.take ids.length).map (Blk.mapId (back ids m1.length))) m1 ++ (mo.drop ids.length).map (Blk.mapId (back ids m1.length))) else none
    | none => none
  else none

def callA (Γ : Env) (mem : List Blk) (f : FuncId) (args : List AV) : Option (Res × List Blk) :=
  match Γ f with
  | none => none
  | some (ms, sp) =>
    let m1 := freezeIds (fzOf ms args) mem
    let as := prepA m1 ms args
    callB sp m1 as (closeIds m1 3 (addNew [] (AV.idsAll as)))

def boundOf (ts : Nat → AV) (d : Nat) : Option AOpd → Option Nat
  | none => some d
  | some x => match intOf? (x.ev ts) with
    | some n => if 0 ≤ n then some n.toNat else none
    | none => none

/-- What a slice of any kind has, parts too. -/
def elemsW (mem : List Blk) : AV → Option (Nat × List AV)
  | .win id off n => match mem[id]? with
    | some (.buf _ sz es) => some (sz, (es.drop off).take n)
    | _ => none
  | a => elems mem a

/-- A slice or a pointer against nil. -/
def nilQ (mem : List Blk) : Bool → AV → Option Bool
  | false, .fsl _ (_ :: _) => some false
  | false, .osl id => match mem[id]? with
    | some (.arr _ _ (_ :: _)) => some false
    | _ => none
  | true, .ptr .. => some false
  | true, .fptr .. => some false
  | false, .v (.slice b _ _) => some b.isNone
  | true, .v (.pointer b) => some b.isNone
  | _, _ => none

/-- A map's entry of a key; a map with one more; a value as cells. -/
def getS : List (ByteArray × AV) → ByteArray → Option AV
  | [], _ => none
  | e :: r, s => if s == e.1 then some e.2 else getS r s
def putS : List (ByteArray × AV) → ByteArray → AV → List (ByteArray × AV)
  | [], s, v => [(s, v)]
  | e :: r, s, v => if s == e.1 then (e.1, v) :: r else e :: putS r s v
def zAV : Value → AV
  | .agg cs => .agg (cs.toList.map .v)
  | x => .v x
def lookM (es : List (ByteArray × AV)) (z : Value) (ok : Bool) (s : ByteArray) : AV :=
  match getS es s with
  | some a => if ok then .tup [a, .v (.bool true)] else a
  | none => if ok then .tup [zAV z, .v (.bool false)] else zAV z

/-- An interface's value against nil. -/
def nilV : AV → Option Bool
  | .ifc .. => some false
  | .v .nilIface => some true
  | _ => none

def stepA (Γ : Env) (ts : Nat → AV) (mem : List Blk) : AOp → Option (Res × List Blk)
  | .bad => none
  | .alc t z => some (.ret (.ptr mem.length 0 0), mem ++ [.tvar t (z.map .v)])
  | .cup x => match x.ev ts with
    | .ptr id 0 o => match mem[id]? with
      | some (.tvar _ cs) => if o < cs.length then some (.ret (.ptr id 0 o), mem) else none
      | _ => none
    | _ => none
  | .cpu u k x => match x.ev ts with
    | .ptr id 0 0 => match mem[id]? with
      | some (.tvar t cs) => if t = u ∧ cs.length = k then some (.ret (.ptr id 0 0), mem) else none
      | _ => none
    | _ => none
  | .eqp neg x y => match x.ev ts, y.ev ts with
    | .ptr i a o, .ptr j b p => if i = j ∧ a = b ∧ o = p then some (.ret (.v (.bool (!neg))), mem) else none
    | _, _ => none
  | .usd x => match x.ev ts with
    | .osl id => match mem[id]? with
      | some (.arr _ _ (_ :: _)) => some (.ret (.ptr id 0 0), mem)
      | _ => none
    | _ => none
  | .ust e p n => match p.ev ts, n.ev ts with
    | .ptr id 0 0, .v (.int .i64 k) => match mem[id]? with
      | some (.arr t 1 es) => if t = e ∧ k = es.length ∧ es ≠ [] ∧ bytesIn es = true then (bytesOf es).map fun l => (.ret (.v (.string ⟨l.toArray⟩)), mem.set id .gone) else none
      | _ => none
    | _, _ => none
  | .mov x => some (.ret (x.ev ts), mem)
  | .pick c a b => match c.ev ts with
    | .v (.bool t) => match a.ev ts, b.ev ts with
      | .v (.bool x), .v (.bool y) => some (.ret (.v (.bool (cond t x y))), mem)
      | x, y => some (.ret (cond t x y), mem)
    | _ => none
  | .alloc z => some (.ret (.ptr mem.length 0 0), mem ++ [.var (z.map .v)])
  | .box x => if (x.ev ts).shaped = true then some (.ret (.ptr mem.length 0 0), mem ++ [.var (x.ev ts).cells]) else none
  | .bld z ps => (fillA (z.map .v) (ps.map fun p => (p.1, p.2.1, p.2.2.ev ts))).map fun cs => (.ret (.agg cs), mem)
  | .bsl t sz ps =>
    if (ps.all fun x => (x.ev ts).shaped && (x.ev ts).isBare && (x.ev ts).cells.length == sz) = true then some (.ret (.osl mem.length), mem ++ [.arr t sz (ps.map (·.ev ts))]) else none
  | .ld g n a => match cellsAt mem n (a.ev ts) with
    | some cs => (mk g cs).map fun v => (.ret v, mem)
    | none => none
  | .st n a x => if (x.ev ts).shaped = true ∧ (x.ev ts).cells.length = n then (putAt mem (x.ev ts).cells (a.ev ts)).map fun m => (.ret .any, m) else none
  | .chk x => match x.ev ts with
    | .ptr id i o => some (.ret (.ptr id i o), mem)
    | .fptr e o => some (.ret (.fptr e o), mem)
    | .fn f cs => some (.ret (.fn f cs), mem)
    | .v (.func (.func f) xs ys) => some (.ret (.v (.func (.func f) xs ys)), mem)
    | _ => none
  | .bin tb op x y => match x.ev ts, y.ev ts with
    | .v a, .v b => (binV tb op a b).map fun r => (.ret (.v r), mem)
    | _, _ => none
  | .isn p neg x => (nilQ mem p (x.ev ts)).map fun q => (.ret (.v (.bool (neg != q))), mem)
  | .isi neg x => (nilV (x.ev ts)).map fun q => (.ret (.v (.bool (neg != q))), mem)
  | .mkm => some (.ret (.osl mem.length), mem ++ [.map []])
  | .lkp z ok m k => match m.ev ts, k.ev ts with
    | .osl id, .v (.string s) => match mem[id]? with
      | some (.map es) => some (.ret (lookM es z ok s), mem)
      | _ => none
    | .v (.map none), .v (.string s) => some (.ret (lookM [] z ok s), mem)
    | _, _ => none
  | .mup m k v => match m.ev ts, k.ev ts with
    | .osl id, .v (.string s) => match mem[id]? with
      | some (.map es) => some (.ret .any, mem.set id (.map (putS es s (v.ev ts))))
      | _ => none
    | _, _ => none
  | .eqs neg ks x y => match x.ev ts, y.ev ts with
    | .agg a, .agg b => (eqCells ks a b).map fun r => (.ret (.v (.bool (if neg then !r else r))), mem)
    | _, _ => none
  | .un op x => match x.ev ts with
    | .v a => (unV op a).map fun r => (.ret (.v r), mem)
    | _ => none
  | .cvt k x => match x.ev ts with
    | .v (.int _ n) => some (.ret (.v (.int k (k.wrap n))), mem)
    | _ => none
  | .cvs x => match x.ev ts with
    | .v (.string s) => some (.ret (.v (.string s)), mem)
    | _ => none
  | .b2s x => match elems mem (x.ev ts) with
    | some (sz, es) => if sz = 1 ∨ es = [] then (bytesOf es).map fun l => (.ret (.v (.string ⟨l.toArray⟩)), mem) else none
    | none => none
  | .s2b _ x => match x.ev ts with
    | .v (.string s) => some (.ret (.fsl 1 (s.data.toList.map fun b => .v (.int .u8 b.toNat))), mem)
    | _ => none
  | .mki t x => match x.ev ts with
    | .any => none
    | a => some (.ret (.ifc t a), mem)
  | .slc true _ x lo hi => match x.ev ts with
    | .v (.string s) => match boundOf ts 0 lo, boundOf ts s.size hi with
      | some l, some h => if l ≤ h ∧ h ≤ s.size then some (.ret (.v (.string (s.extract l h))), mem) else none
      | _, _ => none
    | _ => none
  | .slc false n x lo hi => match (x.ev ts).frz mem with
    | .fsl sz es => match boundOf ts 0 lo, boundOf ts es.length hi with
      | some l, some h => if l ≤ h ∧ h ≤ es.length ∧ (sz = n ∨ es = []) then some (.ret (.fsl sz ((es.drop l).take (h - l))), freezeIds (x.ev ts).slices mem) else none
      | _, _ => none
    | .win id off k => match mem[id]? with
      | some (.buf _ sz es) => match boundOf ts 0 lo, boundOf ts k hi with
        | some l, some h => if l ≤ h ∧ off + h ≤ es.length ∧ sz = n then some (.ret (.win id (off + l) (h - l)), mem) else none
        | _, _ => none
      | _ => none
    | _ => none
  | .mks t byt v l c => match intOf? (l.ev ts), intOf? (c.ev ts) with
    | some n, some m => if n = m ∧ 0 ≤ n ∧ byt * n.toNat ≤ 281474976710656 ∧ n.toNat ≤ 140737488355328 ∧ v.oneCell' = true then some (.ret (.osl mem.length), mem ++ [.arr t 1 (List.replicate n.toNat (.v v))]) else none
    | _, _ => none
  | .sla n x => match x.ev ts with
    | .fptr e o => if 0 < n ∧ o + n ≤ e.cells.length ∧ ((e.cells.drop o).take n).all AV.one = true then some (.ret (.fsl 1 ((e.cells.drop o).take n)), mem) else none
    | _ => none
  | .slo n x lo => match boundOf ts 0 (some lo) with
    | some l => match x.ev ts with
      | .osl id => match mem[id]? with
        | some (.arr t sz es) => if l ≤ es.length ∧ es ≠ [] ∧ sz = n then some (.ret (.osl mem.length), mem.set id .gone ++ [.wrr t sz (es.drop l)]) else none
        | some (.wrr t sz es) => if l ≤ es.length ∧ sz = n then some (.ret (.osl mem.length), mem.set id .gone ++ [.wrr t sz (es.drop l)]) else none
        | some (.frz (.fsl sz es)) => if l ≤ es.length ∧ (sz = n ∨ es = []) then some (.ret (.fsl sz (es.drop l)), freezeIds [id] mem) else none
        | _ => none
      | .win id off k => match mem[id]? with
        | some (.buf _ sz es) => if l ≤ k ∧ off + k ≤ es.length ∧ sz = n then some (.ret (.win id (off + l) (k - l)), mem) else none
        | _ => none
      | .fsl sz es => if l ≤ es.length ∧ (sz = n ∨ es = []) then some (.ret (.fsl sz (es.drop l)), mem) else none
      | .v (.slice none 0 0) => if l = 0 then some (.ret (.fsl 0 []), mem) else none
      | _ => none
    | none => none
  | .fad off x => match x.ev ts with
    | .ptr id i o => some (.ret (.ptr id i (o + off)), mem)
    | .fptr e o => some (.ret (.fptr e (o + off)), mem)
    | _ => none
  | .fld g off n x => match x.ev ts with
    | .agg cs => if off + n ≤ cs.length then (mk g ((cs.drop off).take n)).map fun v => (.ret v, mem) else none
    | _ => none
  | .iax n x i => match x.ev ts, intOf? (i.ev ts) with
    | .fsl sz es, some k => if 0 ≤ k ∧ sz = n then (es[k.toNat]?).map fun e => (.ret (.fptr e 0), mem) else none
    | .osl id, some k => match mem[id]? with
      | some (.arr _ sz es) => if 0 ≤ k ∧ k < es.length ∧ sz = n then some (.ret (.ptr id k.toNat 0), mem) else none
      | some (.frz (.fsl sz es)) => if 0 ≤ k ∧ sz = n then (es[k.toNat]?).map fun e => (.ret (.fptr e 0), mem) else none
      | some (.wrr _ sz es) => if 0 ≤ k ∧ k < es.length ∧ sz = n then some (.ret (.ptr id k.toNat 0), mem) else none
      | _ => none
    | _, _ => none
  | .iaa len n x i => match x.ev ts, intOf? (i.ev ts) with
    | .ptr id j o, some k => if 0 ≤ k ∧ k < len then some (.ret (.ptr id j (o + k.toNat * n)), mem) else none
    | .fptr e o, some k => if 0 ≤ k ∧ k < len then some (.ret (.fptr e (o + k.toNat * n)), mem) else none
    | .v (.pointer (some ⟨b, q, none⟩)), some k => match globA b with
      | some cs => if 0 ≤ k ∧ k < len then some (.ret (.fptr (.agg (cs.map .v)) (q + k.toNat * n)), mem) else none
      | none => none
    | _, _ => none
  | .ixs x i => match x.ev ts, intOf? (i.ev ts) with
    | .v (.string s), some k => if 0 ≤ k then (s.data.toList[k.toNat]?).map fun b => (.ret (.v (.int .u8 b.toNat)), mem) else none
    | _, _ => none
  | .ixa len n g x i => match x.ev ts, intOf? (i.ev ts) with
    | .agg cs, some k => if 0 ≤ k ∧ k < len ∧ k.toNat * n + n ≤ cs.length then (mk g ((cs.drop (k.toNat * n)).take n)).map fun v => (.ret v, mem) else none
    | _, _ => none
  | .ext k x => match x.ev ts with
    | .tup vs => (vs[k]?).map fun v => (.ret v, mem)
    | _ => none
  | .call f xs => callA Γ mem f (xs.map (·.ev ts))
  | .calv f xs => match f.ev ts with
    | .v (.func (.func g) ⟨[]⟩ ⟨[]⟩) => callA Γ mem g (xs.map (·.ev ts))
    | .fn g caps => callA Γ mem g (xs.map (·.ev ts) ++ caps)
    | _ => none
  | .len true x => match x.ev ts with
    | .v (.string s) => some (.ret (.v (.int .i64 s.size)), mem)
    | _ => none
  | .len false x => (elemsW mem (x.ev ts)).map fun p => (.ret (.v (.int .i64 p.2.length)), mem)
  | .lenA n => some (.ret (.v (.int .i64 n)), mem)
  | .app t sz byt s x =>
    match s.ev ts, elems mem (x.ev ts) with
    | .osl id, some (sz2, es2) => match mem[id]? with
      | some (.arr t1 sz1 es) =>
        if t1 = t ∧ sz1 = sz ∧ (sz2 = sz ∨ es2 = []) ∧ (x.ev ts).slices ≠ [id] ∧ (es.length + es2.length) * byt ≤ 140737488355328 ∧ es.length + es2.length ≤ 140737488355328 ∧ es2.all AV.shaped = true then some (.ret (.osl mem.length), mem.set id .gone ++ [.arr t sz (es ++ es2)]) else none
      | some (.wrr t1 sz1 es) =>
        if t1 = t ∧ sz1 = sz ∧ (sz2 = sz ∨ es2 = []) ∧ (x.ev ts).slices ≠ [id] ∧ (es.length + es2.length) * byt ≤ 140737488355328 ∧ es.length + es2.length ≤ 140737488355328 ∧ es2.all AV.shaped = true then some (.ret (.osl mem.length), mem.set id .gone ++ [.wrr t sz (es ++ es2)]) else none
      | _ => none
    | .v (.slice none 0 0), some (sz2, es2) =>
      if (sz2 = sz ∨ es2 = []) ∧ es2.length * byt ≤ 140737488355328 ∧ es2.length ≤ 140737488355328 ∧ es2.all AV.shaped = true then some (.ret (.osl mem.length), mem ++ [.arr t sz es2]) else none
    | .win id off n, _ => match mem[id]?, elemsW mem (x.ev ts) with
      | some (.buf t1 sz1 es), some (sz2, es2) =>
        if t1 = t ∧ sz1 = sz ∧ (sz2 = sz ∨ es2 = []) ∧ off + n + es2.length ≤ es.length ∧ es2.all AV.shaped = true then some (.ret (.win id off (n + es2.length)), mem.set id (.buf t sz (es.take (off + n) ++ es2 ++ es.drop (off + n + es2.length)))) else none
      | _, _ => none
    | _, _ => none
  | .aps t s x =>
    match s.ev ts, x.ev ts with
    | .osl id, .v (.string y) => match mem[id]? with
      | some (.arr t1 sz1 es) => if t1 = t ∧ sz1 = 1 ∧ es.length + y.size ≤ 140737488355328 then some (.ret (.osl mem.length), mem.set id .gone ++ [.arr t 1 (es ++ y.data.toList.map fun b => .v (.int .u8 b.toNat))]) else none
      | _ => none
    | _, _ => none
  | .mnn xs => match xs.map (·.ev ts) with
    | y :: r => (minI y r).map fun v => (.ret v, mem)
    | [] => none
  | .mxx xs => match xs.map (·.ev ts) with
    | y :: r => (maxI y r).map fun v => (.ret v, mem)
    | [] => none
  | .pan x => match x.ev ts with
    | .ifc t a => some (.pan (.ifc t a), mem)
    | _ => none
  | .mkf f caps => some (.ret (.fn f (caps.map (·.ev ts))), mem)
  | .cap x => match x.ev ts with
    | .win id off _ => match mem[id]? with
      | some (.buf _ _ es) => some (.ret (.v (.int .i64 ((es.length - off : Nat) : Int))), mem)
      | _ => none
    | _ => none
  | .cpy sz d s => match d.ev ts with
    | .win id off n => match mem[id]?, elemsW mem (s.ev ts) with
      | some (.buf t sz1 es), some (sz2, es2) =>
        if sz1 = sz ∧ (sz2 = sz ∨ es2 = []) ∧ off + n ≤ es.length ∧ (es2.take n).all AV.shaped = true then some (.ret (.v (.int .i64 ((min es2.length n : Nat) : Int))), mem.set id (.buf t sz (es.take off ++ es2.take n ++ es.drop (off + min es2.length n)))) else none
      | _, _ => none
    | _ => none
  | .ap0 t sz byt z s k => match s.ev ts, k.ev ts with
    | .win id off n, .v (.int .i64 k) => match mem[id]? with
      | some (.buf t1 sz1 es) =>
        if t1 = t ∧ sz1 = sz ∧ off + n ≤ es.length ∧ 0 ≤ k ∧ es.length < off + n + k.toNat ∧ (n + k.toNat) * byt ≤ 140737488355328 ∧ n + k.toNat ≤ 140737488355328 ∧ ((es.drop off).take n).all AV.shaped = true then some (.ret (.osl mem.length), mem ++ [.arr t sz ((es.drop off).take n ++ List.replicate k.toNat (.agg (z.map .v)))]) else none
      | _ => none
    | _, _ => none
  | .clr z x => match x.ev ts with
    | .win id off n => match mem[id]? with
      | some (.buf t sz es) => if z.length = sz ∧ off + n ≤ es.length then some (.ret (.tup []), mem.set id (.buf t sz (es.take off ++ List.replicate n (.agg (z.map .v)) ++ es.drop (off + n)))) else none
      | _ => none
    | _ => none
  | .sl3 n x lo hi mx => match x.ev ts with
    | .fsl sz es => match boundOf ts 0 lo, boundOf ts es.length hi, boundOf ts es.length mx with
      | some l, some h, some m => if l ≤ h ∧ h ≤ m ∧ m ≤ es.length ∧ (sz = n ∨ es = []) then some (.ret (.fsl sz ((es.drop l).take (h - l))), mem) else none
      | _, _, _ => none
    | a => match elemsW mem a with
      | some (_, es) => match boundOf ts 0 lo, boundOf ts es.length hi, boundOf ts es.length mx with
        | some l, some h, some m => if l ≤ h ∧ h ≤ m ∧ m ≤ es.length then some (.ret .any, mem) else none
        | _, _, _ => none
      | none => none

end Go.Proofs.YtajpaagbfmjacaaGreatDoor.Am
/-
  THE ABSTRACT MACHINE, THIRD PART: the operations that write nothing are what the model's are. No program is named here.
-/
namespace Go.Proofs.YtajpaagbfmjacaaGreatDoor.Am
set_option linter.unusedSimpArgs false
set_option linter.unusedVariables false
open Go

/-- What a contract says: called so, the function comes back (or panics) so. -/
def RelRes (F : Nat → Prop) (w : World) (B : List Loc) : Res → Ending → Prop
  | .ret a, .returned x => VR F w B a x
  | .pan a, .panicked ch => ∃ x, ch = [{ v := x, recovered := false }] ∧ VR F w B a x
  | _, _ => False

def Ok (P : Program) (f : FuncId) (sp : Spec) : Prop :=
  ∀ (args : List AV) (mem : List Blk) (r : Res) (mem' : List Blk), sp args mem = some (r, mem') → ∀ (O F : Nat → Prop) (B : List Loc) (w : World) (vs : List Value), (∀ b, w.heap.size ≤ b → O b) → MR O F w B mem → CR F w B args vs →
    Calls P f vs.toArray w fun e w' => ∃ (F' : Nat → Prop) (B' : List Loc), MR O F' w' B' mem' ∧ Ext F F' w w' B B' ∧ Ev O w w' ∧ (∀ b, F' b → F b ∨ O b) ∧ RelRes F' w' B' r e

/-- The function has a body that a call enters. -/
def Enters (P : Program) (f : FuncId) : Prop := ∃ fn, P.funcs[f]? = some fn ∧ fn.body.isSome = true ∧ (fn.name == "runtime.NumGoroutine") = false

/-- A function without a Go body: its value is the model's own. -/
def ExtOk (P : Program) (f : FuncId) (sp : Spec) : Prop :=
  ∀ (args : List AV) (mem : List Blk) (r : Res) (mem' : List Blk), sp args mem = some (r, mem') → mem = [] ∧ mem' = [] ∧ ∃ v, r = .ret v ∧ ∀ (F : Nat → Prop) (w : World) (vs : List Value), CR F w [] args vs →
    ∃ x, (callFunc f vs.toArray).run P w = .ok (.value x) w ∧ VR F w [] v x

/-- .. and one that may look at the caller's memory. -/
def ExtM (P : Program) (f : FuncId) (sp : Spec) : Prop :=
  ∀ (args : List AV) (mem : List Blk) (r : Res) (mem' : List Blk), sp args mem = some (r, mem') → mem' = mem ∧ ∃ v, r = .ret v ∧ ∀ (O F : Nat → Prop) (B : List Loc) (w : World) (vs : List Value), MR O F w B mem → CR F w B args vs →
    ∃ x, (callFunc f vs.toArray).run P w = .ok (.value x) w ∧ VR F w B v x

def CallOk (P : Program) (f : FuncId) (sp : Spec) : Prop := (Enters P f ∧ Ok P f sp) ∨ ExtOk P f sp ∨ ExtM P f sp

def EnvOk (P : Program) (Γ : Env) : Prop := ∀ f ms sp, Γ f = some (ms, sp) → CallOk P f sp

section
variable {P : Program} {O F F' : Nat → Prop} {w w' : World} {B B' : List Loc} {ts : Nat → AV} {mem mem' : List Blk} {a : Act} {o : Oper}

/-- The operation goes as the abstract one says. -/
def Goes (P : Program) (O F : Nat → Prop) (w : World) (B : List Loc) (o : Oper) (a : Act) (r : Res) (mem' : List Blk) : Prop :=
  ∀ (K : Act → World → Prop) (Q : Exit → Act → World → Prop),
    (∀ x w' F' B', MR O F' w' B' mem' → Ext F F' w w' B B' → Ev O w w' → (∀ b, F' b → F b ∨ O b) → match r with
      | .ret v => VR F' w' B' v x → K (a.put o.dst x) w'
      | .pan v => VR F' w' B' v x → Q (.panic [{ v := x, recovered := false }]) a w') → o.wp P a w K Q

theorem Goes.value {x : Value} {v : AV} (hr : (execOp a.eval o).run P w = .ok (.value x) w') (hm : MR O F' w' B' mem') (e : Ext F F' w w' B B') (ev : Ev O w w') (hF : ∀ b, F' b → F b ∨ O b) (hv : VR F' w' B' v x) :
    Goes P O F w B o a (.ret v) mem' := fun K Q h => by
  unfold Oper.wp; rw [hr]; exact h x w' F' B' hm e ev hF hv

theorem Goes.pure {x : Value} {v : AV} (hr : (execOp a.eval o).run P w = .ok (.value x) w) (hm : MR O F w B mem) (hv : VR F w B v x) : Goes P O F w B o a (.ret v) mem :=
  .value hr hm (.refl F w B) (.refl O w) (fun _ h => .inl h) hv

/-- How the slots stand. -/
def TR (F : Nat → Prop) (w : World) (B : List Loc) (ts : Nat → AV) (a : Act) : Prop := ∀ n, VR F w B (ts n) (a.tmps.getD n undef)

theorem TR.mono (e : Ext F F' w w' B B') (ht : TR F w B ts a) : TR F' w' B' ts a := fun n => (ht n).mono e

theorem opd_ok (ht : TR F w B ts a) (x : Operand) : VR F w B ((compOpd x).ev ts) (a.eval x) := by
  cases x with
  | tmp t => exact ht t
  | const v => exact .v v
  | global g => exact .v _
  | func f => exact .v _

theorem VR.of_v {x y : Value} (h : VR F w B (.v x) y) : y = x := by cases h; rfl
theorem VR.of_agg {cs : List AV} {y : Value} (h : VR F w B (.agg cs) y) : ∃ vs, y = .agg vs.toArray ∧ CR F w B cs vs := by cases h; exact ⟨_, rfl, ‹_›⟩
theorem VR.of_tup {cs : List AV} {y : Value} (h : VR F w B (.tup cs) y) : ∃ vs, y = .tuple vs.toArray ∧ CR F w B cs vs := by cases h; exact ⟨_, rfl, ‹_›⟩

theorem VR.one {c : AV} {x : Value} (h : VR F w B c x) (ho : c.one = true) : x.oneCell' = true := by
  cases h <;> first | rfl | exact ho | (simp [AV.one] at ho)

theorem CR.ones {cs : List AV} {vs : List Value} (h : CR F w B cs vs) (ho : cs.all AV.one = true) : ∀ u ∈ vs, u.oneCell' = true := by
  induction cs generalizing vs with
  | nil => cases h; intro u hu; cases hu
  | cons c cs ih =>
    cases h with
    | cons h t =>
      simp only [List.all_cons, Bool.and_eq_true] at ho
      intro u hu
      cases hu with
      | head => exact VR.one h ho.1
      | tail _ hm => exact ih t ho.2 u hm

theorem VR.shaped {c : AV} {x : Value} (h : VR F w B c x) (ho : c.shaped = true) : CR F w B c.cells x.cells.toList ∧ ∀ u ∈ x.cells.toList, u.oneCell' = true := by
  have single : ∀ {c : AV} {x : Value}, VR F w B c x → x.oneCell' = true → c.cells = [c] → CR F w B c.cells x.cells.toList ∧ ∀ u ∈ x.cells.toList, u.oneCell' = true := by
    intro c x h h1 hc
    have : x.cells = #[x] := by cases x <;> first | rfl | (simp [Value.oneCell'] at h1)
    rw [hc, this]
    exact ⟨.one h, by simpa using h1⟩
  cases h with
  | agg h =>
    refine ⟨by simpa [Value.cells] using h, ?_⟩
    simp only [AV.shaped] at ho
    simp only [Value.cells]
    exact CR.ones h ho
  | _ => first | exact single (by constructor <;> assumption) rfl rfl | exact single (.v _) ho rfl | (simp [AV.shaped, AV.one] at ho)

/-! ### One by one -/
theorem go_mov (x : Operand) (ho : o.op = .move x ∨ o.op = .assign x) (hm : MR O F w B mem) (ht : TR F w B ts a) : Goes P O F w B o a (.ret ((compOpd x).ev ts)) mem :=
  .pure (by rcases ho with ho | ho <;> simp [execOp, ho]) hm (opd_ok ht x)

theorem go_pick (c x y : Operand) (t : Bool) (ho : o.op = .pick c x y) (hc : (compOpd c).ev ts = .v (.bool t)) (hm : MR O F w B mem) (ht : TR F w B ts a) :
    Goes P O F w B o a (.ret (cond t ((compOpd x).ev ts) ((compOpd y).ev ts))) mem := by
  have h := opd_ok ht c
  rw [hc] at h
  have e : a.eval c = .bool t := h.of_v
  refine .pure (x := if t then a.eval x else a.eval y) (by simp [execOp, ho, e, asBool]) hm ?_
  cases t
  · exact opd_ok ht y
  · exact opd_ok ht x

theorem run_under {t : TypeId} {d : TypeDesc} (h : P.underlying t = some d) : (underlying t).run P w = .ok d w := run_underlying h w
theorem run_size {t : TypeId} {n : Nat} (h : szOf P t = some n) : (sizeOf t).run P w = .ok n w := by
  unfold szOf at h
  cases hi : P.info? t with
  | none => simp [hi] at h
  | some i => simp [hi] at h; subst h; simp [sizeOf, typeInfo, hi]
theorem run_agg {t : TypeId} {k : Bool × Nat} (h : kOf P t = some k) : (isAgg t).run P w = .ok k.1 w ∧ (sizeOf t).run P w = .ok k.2 w := by
  unfold kOf at h
  split at h
  · rename_i d n h1 h2
    cases h
    refine ⟨?_, run_size h2⟩
    unfold isAgg aggOf
    simp only [Sem.run_bind, run_under h1, Result.andThen_ok]
    rw [h1]
    cases d <;> rfl
  · cases h

theorem kOf_some {t : TypeId} {k : Bool × Nat} (h : kOf P t = some k) : szOf P t = some k.2 := by
  unfold kOf at h
  split at h
  · rename_i h1 h2; cases h; exact h2
  · cases h

theorem mk_some {g : Bool} {cs : List AV} {v : AV} (h : mk g cs = some v) : (g = true ∧ v = .agg cs) ∨ (g = false ∧ cs = [v]) := by
  unfold mk at h
  cases g
  · simp at h
    split at h
    · cases h; exact .inr ⟨rfl, rfl⟩
    · cases h
  · simp at h; exact .inl ⟨rfl, h.symm⟩

/-- Cells behind a pointer, as they lie. -/
theorem cellsAt_ok {n : Nat} {p : AV} {cs : List AV} {x : Value} (h : cellsAt mem n p = some cs) (hm : MR O F w B mem) (hv : VR F w B p x) :
    ∃ b o xs, x = .pointer (some ⟨b, o, none⟩) ∧ cs.length = n ∧ CR F w B cs xs ∧ ∀ j y, xs[j]? = some y → w.cell? ⟨b, o + j, none⟩ = some y := by
  have bare : ∀ {as : List AV} {xs : List Value}, CR F w [] as xs → CR F w B as xs := fun h => h.mono ⟨fun _ h => h, fun i l h => by simp at h, fun _ _ => rfl⟩
  unfold cellsAt at h
  split at h
  · rename_i id i o
    split at h
    · rename_i cs0 hi
      split at h
      · rename_i hc
        obtain ⟨rfl, hle⟩ := hc
        cases h
        have hlt := (List.getElem?_eq_some_iff.1 hi).1
        obtain ⟨l, hl⟩ : ∃ l, B[id]? = some l := ⟨_, List.getElem?_eq_getElem (by rw [hm.len]; exact hlt)⟩
        have hbr := hm.br id _ l hi hl
        match l, hbr, hl with
        | .var b, ⟨t, xs, h1, h2⟩, hl =>
          refine ⟨b, o, (xs.drop o).take n, ?_, by simp; omega, (h2.drop o).take n, ?_⟩
          · cases hv with
            | ptrV h => rw [hl] at h; cases h; rfl
            | ptrA h => rw [hl] at h; cases h
            | ptrW h => rw [hl] at h; cases h
          · intro j y hj
            rw [List.getElem?_take] at hj
            split at hj
            · rw [List.getElem?_drop] at hj
              simp only [World.cell?, h1]
              simpa using hj
            · cases hj
      · cases h
    · rename_i tt cs0 hi
      split at h
      · rename_i hc
        obtain ⟨rfl, hle⟩ := hc
        cases h
        have hlt := (List.getElem?_eq_some_iff.1 hi).1
        obtain ⟨l, hl⟩ : ∃ l, B[id]? = some l := ⟨_, List.getElem?_eq_getElem (by rw [hm.len]; exact hlt)⟩
        have hbr := hm.br id _ l hi hl
        match l, hbr, hl with
        | .var b, ⟨xs, h1, h2⟩, hl =>
          refine ⟨b, o, (xs.drop o).take n, ?_, by simp; omega, (h2.drop o).take n, ?_⟩
          · cases hv with
            | ptrV h => rw [hl] at h; cases h; rfl
            | ptrA h => rw [hl] at h; cases h
            | ptrW h => rw [hl] at h; cases h
          · intro j y hj
            rw [List.getElem?_take] at hj
            split at hj
            · rw [List.getElem?_drop] at hj
              simp only [World.cell?, h1]
              simpa using hj
            · cases hj
      · cases h
    · rename_i t sz es hi
      split at h
      · rename_i e he
        split at h
        · rename_i hle
          cases h
          have hlt := (List.getElem?_eq_some_iff.1 hi).1
          obtain ⟨l, hl⟩ : ∃ l, B[id]? = some l := ⟨_, List.getElem?_eq_getElem (by rw [hm.len]; exact hlt)⟩
          have hbr := hm.br id _ l hi hl
          match l, hbr, hl with
          | .arr sz' g m cap, ⟨h1, h2, h3, h4, xs, h5, h6⟩, hl =>
            subst h1
            have hes : (AV.cellsAll es).length = es.length * sz := AV.cellsAll_length h4
            have hxs : xs.length = es.length * sz := by rw [h6.length, hes]
            have hie : i < es.length := (List.getElem?_eq_some_iff.1 he).1
            have hel : e.cells.length = sz := h4 e (List.mem_of_getElem? he)
            cases g with
            | none =>
              cases hv with
              | ptrV h => rw [hl] at h; cases h
              | ptrA h => rw [hl] at h; cases h
              | ptrW h => rw [hl] at h; cases h
            | some g =>
              have hx : x = .pointer (some ⟨g, i * sz + o, none⟩) := by
                cases hv with
                | ptrV h => rw [hl] at h; cases h
                | ptrA h => rw [hl] at h; cases h; rfl
                | ptrW h => rw [hl] at h; cases h
              refine ⟨g, i * sz + o, ((xs.drop (i * sz)).take sz |>.drop o).take n, hx, by simp; omega, ?_, ?_⟩
              · have hcr := ((bare h6).drop (i * sz)).take sz
                have heq : ((AV.cellsAll es).drop (i * sz)).take sz = e.cells := by
                  apply List.ext_getElem?
                  intro j
                  rw [List.getElem?_take]
                  split
                  · rename_i hj
                    rw [List.getElem?_drop, AV.cellsAll_at h4 he j hj]
                  · rw [List.getElem?_eq_none (by omega)]
                rw [heq] at hcr
                exact (hcr.drop o).take n
              · intro j y hj
                rw [List.getElem?_take] at hj
                split at hj
                · rw [List.getElem?_drop, List.getElem?_take] at hj
                  split at hj
                  · rw [List.getElem?_drop] at hj
                    have := h5.cells (g := g) rfl (i * sz + (o + j)) y hj
                    rw [show i * sz + o + j = i * sz + (o + j) by omega]
                    unfold Addr.add at this
                    split at this
                    · rename_i h0; rw [h0]; exact this
                    · simpa using this
                  · cases hj
                · cases hj
        · cases h
      · cases h
    · rename_i t sz es hi
      split at h
      · rename_i e he
        split at h
        · rename_i hle
          cases h
          have hlt := (List.getElem?_eq_some_iff.1 hi).1
          obtain ⟨l, hl⟩ : ∃ l, B[id]? = some l := ⟨_, List.getElem?_eq_getElem (by rw [hm.len]; exact hlt)⟩
          have hbr := hm.br id _ l hi hl
          match l, hbr, hl with
          | .wrr sz' g off m cap, ⟨h1, h2, h3, h3', h3'', h4, cur, xs, h5, h6', h7', h6⟩, hl =>
            subst h1
            have hes : (AV.cellsAll es).length = es.length * sz := AV.cellsAll_length h4
            have hxs : xs.length = es.length * sz := by rw [h6.length, hes]
            have hie : i < es.length := (List.getElem?_eq_some_iff.1 he).1
            have hel : e.cells.length = sz := h4 e (List.mem_of_getElem? he)
            have hx : x = .pointer (some ⟨g, off + (i * sz + o), none⟩) := by
              cases hv with
              | ptrV h => rw [hl] at h; cases h
              | ptrA h => rw [hl] at h; cases h
              | ptrW h => rw [hl] at h; cases h; rfl
            refine ⟨g, off + (i * sz + o), ((xs.drop (i * sz)).take sz |>.drop o).take n, hx, by simp; omega, ?_, ?_⟩
            · have hcr := ((bare h6).drop (i * sz)).take sz
              have heq : ((AV.cellsAll es).drop (i * sz)).take sz = e.cells := by
                apply List.ext_getElem?
                intro j
                rw [List.getElem?_take]
                split
                · rename_i hj
                  rw [List.getElem?_drop, AV.cellsAll_at h4 he j hj]
                · rw [List.getElem?_eq_none (by omega)]
              rw [heq] at hcr
              exact (hcr.drop o).take n
            · intro j y hj
              rw [List.getElem?_take] at hj
              split at hj
              · rw [List.getElem?_drop, List.getElem?_take] at hj
                split at hj
                · rw [List.getElem?_drop, ← h7', List.getElem?_take] at hj
                  split at hj
                  · rw [List.getElem?_drop] at hj
                    simp only [World.cell?, h5]
                    rw [show off + (i * sz + o) + j = off + (i * sz + (o + j)) by omega]
                    simpa using hj
                  · cases hj
                · cases hj
              · cases hj
        · cases h
      · cases h
    · cases h
  · rename_i e o
    split at h
    · rename_i hle
      cases h
      cases hv with
      | fptr b a0 _ h hF hx =>
        rename_i xs
        refine ⟨b, a0 + o, (xs.drop o).take n, rfl, by simp; omega, ((bare h).drop o).take n, ?_⟩
        intro j y hj
        rw [List.getElem?_take] at hj
        split at hj
        · rw [List.getElem?_drop] at hj
          rw [Nat.add_assoc]; exact hx _ _ hj
        · cases hj
    · cases h
  · cases h

theorem add_plain (b o n : Nat) : (⟨b, o, none⟩ : Addr).add n = ⟨b, o + n, none⟩ := by
  unfold Addr.add; split
  · rename_i h; subst h; rfl
  · rfl

theorem go_ld (t : TypeId) (x : Operand) (k : Bool × Nat) (cs : List AV) (v : AV) (ho : o.op = .load t x) (hk : kOf P t = some k) (hc : cellsAt mem k.2 ((compOpd x).ev ts) = some cs) (hv : mk k.1 cs = some v)
    (hm : MR O F w B mem) (ht : TR F w B ts a) : Goes P O F w B o a (.ret v) mem := by
  obtain ⟨b, of, xs, hx, hl, hcr, hcell⟩ := cellsAt_ok hc hm (opd_ok ht x)
  obtain ⟨r1, r2⟩ := run_agg (P := P) (w := w) hk
  have hxl : xs.length = k.2 := by rw [hcr.length, hl]
  have hload := run_loadCells_list (P := P) w ⟨b, of, none⟩ xs (fun j y hj => by rw [add_plain]; exact hcell j y hj)
  rw [hxl] at hload
  rcases mk_some hv with ⟨hg, rfl⟩ | ⟨hg, rfl⟩
  · refine .pure (x := .agg xs.toArray) ?_ hm (.agg hcr)
    simp only [execOp, ho, Instr.loadAt, hx, Instr.sureAddr, loadVar, Sem.run_bind, Sem.run_pure, Result.andThen_ok, r1, hg, if_true, r2, hload]
  · obtain ⟨y, rfl, hy⟩ := hcr.of_one
    refine .pure (x := y) ?_ hm hy
    have h0 := hcell 0 y rfl
    simp only [Nat.add_zero] at h0
    simp only [execOp, ho, Instr.loadAt, hx, Instr.sureAddr, loadVar, Sem.run_bind, Sem.run_pure, Result.andThen_ok, r1, hg, Bool.false_eq_true, if_false, run_load, h0]

theorem go_un (op : UnOp) (t : TypeId) (x : Operand) (v r : Value) (ho : o.op = .unOp op t x) (hx : (compOpd x).ev ts = .v v) (hr : unV op v = some r) (hm : MR O F w B mem) (ht : TR F w B ts a) :
    Goes P O F w B o a (.ret (.v r)) mem := by
  have h := opd_ok ht x
  rw [hx] at h
  have e := h.of_v
  refine .pure (x := r) ?_ hm (.v r)
  simp only [execOp, ho, e]
  cases op <;> cases v <;> simp [unV] at hr <;> subst hr <;> simp [Op.unary, Op.intArith, Op.intBits, notI]

theorem run_guard (op : BinOp) (t : TypeId) (x y : Operand) (va vb : Value) (h : ∀ cs, va ≠ .agg cs) (h2 : va ≠ .nilIface) : (eqGuard op t x y va vb).run P w = .ok () w := by
  unfold eqGuard
  cases va <;> (try exact absurd rfl h2) <;> (try exact absurd rfl (h _)) <;> (split <;> rfl)

theorem string_beq (a b : ByteArray) : (a.toList == b.toList) = (a == b) := (beq_toListBytes a b).symm
theorem string_bne (a b : ByteArray) : (!(a.toList == b.toList)) = (a != b) := by rw [string_beq]; rfl

theorem isBool_under {t : TypeId} (h : isBool P t = true) : P.underlying t = some .bool := by
  unfold isBool at h
  split at h
  · assumption
  · cases h

theorem run_binI {op : BinOp} {k k' : IntKind} {x y : Int} {r : Value} (t : TypeId) (h : binI op k x k' y = some r) : (binOp op t (.int k x) (.int k' y)).run P w = .ok r w := by
  cases op <;> simp only [binI, Option.ite_none_right_eq_some, Option.some.injEq] at h
  case shl | shr =>
    obtain ⟨h0, rfl⟩ := h
    simp only [binOp, Op.shift]
    rw [if_neg (by omega)]; rfl
  case quo | rem =>
    obtain ⟨⟨rfl, h0⟩, rfl⟩ := h
    simp [binOp, Op.intDiv, h0]
  all_goals
    obtain ⟨rfl, rfl⟩ := h
    simp [binOp, Op.intArith, Op.intBits, Op.intCmp, andI, orI, xorI, andNotI]

theorem run_binF {op : BinOp} {k k' : FloatKind} {x y : Nat} {r : Value} (t : TypeId) (h : binF op k x k' y = some r) : (binOp op t (.float k x) (.float k' y)).run P w = .ok r w := by
  cases op <;> simp only [binF, Option.ite_none_right_eq_some, Option.some.injEq] at h <;> (try cases h)
  all_goals
    rename_i h1 h2
    subst h1; subst h2
    simp [binOp, Op.floatCmp]

theorem run_binS {op : BinOp} {x y : ByteArray} {r : Value} (t : TypeId) (h : binS op x y = some r) : (binOp op t (.string x) (.string y)).run P w = .ok r w := by
  cases op <;> simp only [binS, Option.ite_none_right_eq_some, Option.some.injEq] at h <;> (try cases h)
  case add =>
    rename_i h1 h2
    subst h2
    simp only [binOp, Op.stringOp]
    rw [if_neg (by simp [IntKind.max, IntKind.bits, IntKind.signed]; omega)]; rfl
  case eql => simp [binOp, Op.stringOp, string_beq]
  case neq => simp [binOp, Op.stringOp, string_beq, bne]

theorem run_binB {op : BinOp} {x y : Bool} {r : Value} (t : TypeId) (h : binB (isBool P t) op x y = some r) : (binOp op t (.bool x) (.bool y)).run P w = .ok r w := by
  have he : ∀ hu : P.underlying t = some .bool, (Op.equal t (.bool x) (.bool y)).run P w = .ok (x == y) w := fun hu => run_equalIn_bool' w 9999 t x y hu
  cases op <;> simp only [binB, Option.ite_none_right_eq_some, Option.some.injEq] at h <;> (try cases h)
  case eql.intro h1 h2 =>
    subst h2
    have : binOp .eql t (.bool x) (.bool y) = (do pure (.bool (← Op.equal t (.bool x) (.bool y)))) := rfl
    rw [this, Sem.run_bind, he (isBool_under h1)]; rfl
  case neq.intro h1 h2 =>
    subst h2
    have : binOp .neq t (.bool x) (.bool y) = (do pure (.bool (!(← Op.equal t (.bool x) (.bool y))))) := rfl
    rw [this, Sem.run_bind, he (isBool_under h1)]; rfl

theorem go_bin (op : BinOp) (t : TypeId) (x y : Operand) (yt : TypeId) (va vb r : Value) (ho : o.op = .binOp op t x y yt) (hx : (compOpd x).ev ts = .v va) (hy : (compOpd y).ev ts = .v vb)
    (hr : binV (isBool P t) op va vb = some r) (hm : MR O F w B mem) (ht : TR F w B ts a) : Goes P O F w B o a (.ret (.v r)) mem := by
  have h1 := opd_ok ht x
  rw [hx] at h1
  have e1 := h1.of_v
  have h2 := opd_ok ht y
  rw [hy] at h2
  have e2 := h2.of_v
  refine .pure (x := r) ?_ hm (.v r)
  simp only [execOp, ho, e1, e2]
  suffices hg : (eqGuard op t x y va vb).run P w = .ok () w ∧ (binOp op t va vb).run P w = .ok r w by
    simp only [Sem.run_bind, hg.1, Result.andThen_ok, hg.2]; rfl
  unfold binV at hr
  split at hr
  · exact ⟨run_guard op t x y _ _ (fun _ h => by cases h) (fun h => by cases h), run_binI t hr⟩
  · exact ⟨run_guard op t x y _ _ (fun _ h => by cases h) (fun h => by cases h), run_binF t hr⟩
  · exact ⟨run_guard op t x y _ _ (fun _ h => by cases h) (fun h => by cases h), run_binS t hr⟩
  · exact ⟨run_guard op t x y _ _ (fun _ h => by cases h) (fun h => by cases h), run_binB t hr⟩
  · cases hr

end
end Go.Proofs.YtajpaagbfmjacaaGreatDoor.Am
/-
  THE ABSTRACT MACHINE, FOURTH PART: more operations that write nothing. No program is named here.
-/
namespace Go.Proofs.YtajpaagbfmjacaaGreatDoor.Am
set_option linter.unusedSimpArgs false
set_option linter.unusedVariables false
open Go
section
variable {P : Program} {O F F' : Nat → Prop} {w w' : World} {B B' : List Loc} {ts : Nat → AV} {mem mem' : List Blk} {a : Act} {o : Oper}

theorem bare_up {x : AV} {y : Value} (h : VR F w [] x y) : VR F w B x y := h.mono ⟨fun _ h => h, fun i l h => by simp at h, fun _ _ => rfl⟩
theorem bareC_up {x : List AV} {y : List Value} (h : CR F w [] x y) : CR F w B x y := h.mono ⟨fun _ h => h, fun i l h => by simp at h, fun _ _ => rfl⟩

theorem VR.of_ifc {t : TypeId} {c : AV} {y : Value} (h : VR F w B (.ifc t c) y) : ∃ z, y = .iface t z ∧ VR F w B c z := by cases h; exact ⟨_, rfl, ‹_›⟩
theorem VR.of_ptr {id i k : Nat} {y : Value} (h : VR F w B (.ptr id i k) y) : ∃ b p, y = .pointer (some ⟨b, p, none⟩) := by cases h <;> exact ⟨_, _, rfl⟩
theorem VR.of_fptr {e : AV} {k : Nat} {y : Value} (h : VR F w B (.fptr e k) y) : ∃ b p, y = .pointer (some ⟨b, p, none⟩) := by cases h; exact ⟨_, _, rfl⟩
theorem VR.of_fn {f : FuncId} {cs : List AV} {y : Value} (h : VR F w B (.fn f cs) y) : ∃ vs, y = .func (.func f) #[] vs.toArray ∧ CR F w B cs vs := by cases h; exact ⟨_, rfl, ‹_›⟩

theorem go_cvt (s d : TypeId) (x : Operand) (ks k : IntKind) (n : Int) (k0 : IntKind) (ho : o.op = .convert s d x) (h1 : P.underlying s = some (.int ks)) (h2 : P.underlying d = some (.int k)) (hx : (compOpd x).ev ts = .v (.int k0 n))
    (hm : MR O F w B mem) (ht : TR F w B ts a) : Goes P O F w B o a (.ret (.v (.int k (k.wrap n)))) mem := by
  have h := opd_ok ht x
  rw [hx] at h
  refine .pure (x := .int k (k.wrap n)) ?_ hm (.v _)
  simp [execOp, ho, h.of_v, convert, run_under h1, run_under h2, Conv.intToInt]

theorem go_cvs (s d : TypeId) (x : Operand) (y : ByteArray) (ho : o.op = .convert s d x) (h1 : P.underlying s = some .string) (h2 : P.underlying d = some .string) (hx : (compOpd x).ev ts = .v (.string y))
    (hm : MR O F w B mem) (ht : TR F w B ts a) : Goes P O F w B o a (.ret (.v (.string y))) mem := by
  have h := opd_ok ht x
  rw [hx] at h
  refine .pure (x := .string y) ?_ hm (.v _)
  simp [execOp, ho, h.of_v, convert, run_under h1, run_under h2]

theorem go_mki (t : TypeId) (x : Operand) (ho : o.op = .makeInterface t x) (d : TypeDesc) (h1 : P.underlying t = some d) (hd : ∀ ms, d ≠ .interface ms)
    (hm : MR O F w B mem) (ht : TR F w B ts a) : Goes P O F w B o a (.ret (.ifc t ((compOpd x).ev ts))) mem := by
  refine .pure (x := .iface t (a.eval x)) ?_ hm (.ifc (opd_ok ht x))
  simp only [execOp, ho, Instr.makeInterface, Sem.run_bind, run_under h1, Result.andThen_ok]
  cases d <;> first | rfl | exact absurd rfl (hd _)

theorem mapCR (ht : TR F w B ts a) (xs : List Operand) : CR F w B (xs.map fun x => (compOpd x).ev ts) (xs.map a.eval) := by
  induction xs with
  | nil => exact .nil
  | cons x xs ih => exact .cons (opd_ok ht x) ih

theorem go_mkf (f : FuncId) (first caps : Array Operand) (ho : o.op = .makeFunc (.func f) first caps) (hf : first.isEmpty = true)
    (hm : MR O F w B mem) (ht : TR F w B ts a) : Goes P O F w B o a (.ret (.fn f (caps.toList.map fun x => (compOpd x).ev ts))) mem := by
  have h0 : first = #[] := by simpa using hf
  subst h0
  refine .pure (x := .func (.func f) #[] (caps.toList.map a.eval).toArray) ?_ hm (.fn (mapCR ht _))
  have hmap : caps.map a.eval = (caps.toList.map a.eval).toArray := by apply Array.toList_inj.1; simp
  simp only [execOp, ho, Instr.makeFunc, Sem.run_bind, Sem.run_pure, Result.andThen_ok, hmap, Array.map_empty]

theorem go_ext (k : Nat) (x : Operand) (vs : List AV) (v : AV) (ho : o.op = .extract x k) (hx : (compOpd x).ev ts = .tup vs) (hv : vs[k]? = some v)
    (hm : MR O F w B mem) (ht : TR F w B ts a) : Goes P O F w B o a (.ret v) mem := by
  have h := opd_ok ht x
  rw [hx] at h
  obtain ⟨ys, e, hc⟩ := h.of_tup
  obtain ⟨y, h1, h2⟩ := hc.at hv
  refine .pure (x := y) ?_ hm h2
  simp [execOp, ho, e, Instr.extract, h1]

theorem go_pan (x : Operand) (t : TypeId) (v : AV) (ho : o.op = .panic x) (hx : (compOpd x).ev ts = .ifc t v)
    (hm : MR O F w B mem) (ht : TR F w B ts a) : Goes P O F w B o a (.pan (.ifc t v)) mem := by
  have h := opd_ok ht x
  rw [hx] at h
  intro K Q hk
  unfold Oper.wp
  obtain ⟨y, hy, _⟩ := h.of_ifc
  rw [hy] at h
  have : (execOp a.eval o).run P w = .halt (.panic (.iface t y)) w := by simp [execOp, ho, hy, Instr.panic]
  rw [this]
  exact hk _ w F B hm (.refl F w B) (.refl O w) (fun _ h => .inl h) h

theorem go_chk (x : Operand) (v : AV) (ho : o.op = .nilCheck x) (hx : (compOpd x).ev ts = v)
    (hv : (∃ id i o, v = .ptr id i o) ∨ (∃ e o, v = .fptr e o) ∨ (∃ f cs, v = .fn f cs) ∨ (∃ f xs ys, v = .v (.func (.func f) xs ys)))
    (hm : MR O F w B mem) (ht : TR F w B ts a) : Goes P O F w B o a (.ret v) mem := by
  have h := opd_ok ht x
  rw [hx] at h
  refine .pure (x := a.eval x) ?_ hm h
  rcases hv with ⟨id, i, of, rfl⟩ | ⟨e, of, rfl⟩ | ⟨f, cs, rfl⟩ | ⟨f, xs, ys, rfl⟩
  · obtain ⟨b, p, e⟩ := h.of_ptr; simp [execOp, ho, e]
  · obtain ⟨b, p, e⟩ := h.of_fptr; simp [execOp, ho, e]
  · obtain ⟨vs, e, _⟩ := h.of_fn; simp [execOp, ho, e]
  · have e := h.of_v; simp [execOp, ho, e]

theorem place_ok (k : Nat) {f : Field} {n : Nat} (ad : Addr) (hs : szOf P f.type = some (n + 1)) : (fieldPlace ad f).run P w = .ok (ad.add f.offset) w := by
  simp [fieldPlace, run_size hs]

theorem go_fad (st : TypeId) (x : Operand) (i : Nat) (fs : Array Field) (f : Field) (n : Nat) (v : AV) (ho : o.op = .fieldAddr st x i) (h1 : P.underlying st = some (.struct fs)) (h2 : fs[i]? = some f) (h3 : szOf P f.type = some (n + 1))
    (hx : (∃ id j k, (compOpd x).ev ts = .ptr id j k ∧ v = .ptr id j (k + f.offset)) ∨ (∃ e k, (compOpd x).ev ts = .fptr e k ∧ v = .fptr e (k + f.offset)))
    (hm : MR O F w B mem) (ht : TR F w B ts a) : Goes P O F w B o a (.ret v) mem := by
  have h := opd_ok ht x
  have key : ∀ b p, a.eval x = .pointer (some ⟨b, p, none⟩) → (execOp a.eval o).run P w = .ok (.value (.pointer (some ⟨b, p + f.offset, none⟩))) w := by
    intro b p e
    simp only [execOp, ho, e, Instr.fieldAt, Sem.run_bind, run_under h1, Result.andThen_ok, h2, Instr.sureAddr, Sem.run_pure, place_ok 0 _ h3, add_plain]
  rcases hx with ⟨id, j, k, hx, rfl⟩ | ⟨e, k, hx, rfl⟩
  · rw [hx] at h
    generalize hy : a.eval x = y at h
    cases h with
    | ptrV h => exact .pure (key _ _ hy) hm (.ptrV h)
    | ptrA h => refine .pure (key _ _ hy) hm ?_; rw [Nat.add_assoc]; exact .ptrA h
    | ptrW h => refine .pure (key _ _ hy) hm ?_; rw [Nat.add_assoc, Nat.add_assoc]; exact .ptrW h
  · rw [hx] at h
    generalize hy : a.eval x = y at h
    cases h with
    | fptr b a0 _ h hF hc => refine .pure (key _ _ hy) hm ?_; rw [Nat.add_assoc]; exact .fptr b a0 _ h hF hc

theorem run_part {t : TypeId} {k : Bool × Nat} {xs : List Value} {cs : List AV} {off : Nat} {v : AV} (hk : kOf P t = some k) (hc : CR F w B cs xs) (hl : off + k.2 ≤ cs.length) (hv : mk k.1 ((cs.drop off).take k.2) = some v) :
    ∃ y, (part t xs.toArray off).run P w = .ok y w ∧ VR F w B v y := by
  obtain ⟨r1, r2⟩ := run_agg (P := P) (w := w) hk
  have hcr := (hc.drop off).take k.2
  rcases mk_some hv with ⟨hg, rfl⟩ | ⟨hg, he⟩
  · refine ⟨.agg ((xs.drop off).take k.2).toArray, ?_, .agg hcr⟩
    simp only [part, Sem.run_bind, r1, Result.andThen_ok, hg, if_true, r2]
    simp only [Sem.run_pure, Result.andThen_ok]
    congr 2
    simp [List.extract_eq_take_drop]
  · rw [he] at hcr
    obtain ⟨y, hy, hvr⟩ := hcr.of_one
    refine ⟨y, ?_, hvr⟩
    have h0 : xs[off]? = some y := by
      have : ((xs.drop off).take k.2)[0]? = some y := by rw [hy]; rfl
      rw [List.getElem?_take] at this
      split at this
      · rw [List.getElem?_drop] at this; simpa using this
      · cases this
    simp only [part, Sem.run_bind, r1, Result.andThen_ok, hg]
    simp [h0]

theorem go_fld (st : TypeId) (x : Operand) (i : Nat) (fs : Array Field) (f : Field) (k : Bool × Nat) (cs : List AV) (v : AV) (ho : o.op = .field st x i) (h1 : P.underlying st = some (.struct fs)) (h2 : fs[i]? = some f) (h3 : kOf P f.type = some k)
    (hx : (compOpd x).ev ts = .agg cs) (hl : f.offset + k.2 ≤ cs.length) (hv : mk k.1 ((cs.drop f.offset).take k.2) = some v)
    (hm : MR O F w B mem) (ht : TR F w B ts a) : Goes P O F w B o a (.ret v) mem := by
  have h := opd_ok ht x
  rw [hx] at h
  obtain ⟨xs, e, hc⟩ := h.of_agg
  obtain ⟨y, hy, hvr⟩ := run_part (P := P) h3 hc hl hv
  refine .pure (x := y) ?_ hm hvr
  simp only [execOp, ho, e, Instr.field, Sem.run_bind, run_under h1, Result.andThen_ok, h2, asAgg, Sem.run_pure, hy]

theorem int_of {x : Operand} {k : Int} (ht : TR F w B ts a) (h : intOf? ((compOpd x).ev ts) = some k) : ∃ ki, a.eval x = .int ki k := by
  have hv := opd_ok ht x
  unfold intOf? at h
  split at h
  · rename_i ki n hx
    cases h
    rw [hx] at hv
    exact ⟨ki, hv.of_v⟩
  · cases h

theorem go_ixs (t : TypeId) (x i : Operand) (s : ByteArray) (k : Int) (b : UInt8) (ho : o.op = .index t x i) (h1 : P.underlying t = some .string) (hx : (compOpd x).ev ts = .v (.string s)) (hi : intOf? ((compOpd i).ev ts) = some k)
    (h0 : 0 ≤ k) (hb : s.data.toList[k.toNat]? = some b) (hm : MR O F w B mem) (ht : TR F w B ts a) : Goes P O F w B o a (.ret (.v (.int .u8 b.toNat))) mem := by
  have h := opd_ok ht x
  rw [hx] at h
  obtain ⟨ki, ei⟩ := int_of ht hi
  refine .pure (x := .int .u8 b.toNat) ?_ hm (.v _)
  have hb' : s[k.toNat]? = some b := by
    obtain ⟨hlt, he⟩ := List.getElem?_eq_some_iff.1 hb
    have hlt' : k.toNat < s.size := by simpa using hlt
    rw [getElem?_pos s k.toNat hlt', ← he]; rfl
  simp [execOp, ho, h.of_v, ei, Instr.index, asIntOf, run_under h1, h0, hb']

theorem go_ixa (t : TypeId) (x i : Operand) (len : Nat) (e : TypeId) (kk : Bool × Nat) (cs : List AV) (k : Int) (v : AV) (ho : o.op = .index t x i) (h1 : P.underlying t = some (.array len e)) (h2 : kOf P e = some kk)
    (hx : (compOpd x).ev ts = .agg cs) (hi : intOf? ((compOpd i).ev ts) = some k) (h0 : 0 ≤ k) (hlt : k < len) (hl : k.toNat * kk.2 + kk.2 ≤ cs.length) (hv : mk kk.1 ((cs.drop (k.toNat * kk.2)).take kk.2) = some v)
    (hm : MR O F w B mem) (ht : TR F w B ts a) : Goes P O F w B o a (.ret v) mem := by
  have h := opd_ok ht x
  rw [hx] at h
  obtain ⟨xs, ex, hc⟩ := h.of_agg
  obtain ⟨ki, ei⟩ := int_of ht hi
  obtain ⟨y, hy, hvr⟩ := run_part (P := P) h2 hc hl hv
  refine .pure (x := y) ?_ hm hvr
  simp only [execOp, ho, ex, ei, Instr.index, asIntOf, Sem.run_bind, run_under h1, Result.andThen_ok, Sem.run_pure, (run_agg (P := P) (w := w) h2).2]
  rw [if_pos ⟨h0, hlt⟩]
  simp only [Sem.run_bind, (run_agg (P := P) (w := w) h2).2, Result.andThen_ok, hy, Sem.run_pure]

/-- A slice's elements, as they lie. -/
theorem elems_ok {x : AV} {y : Value} {sz : Nat} {es : List AV} (h : elems mem x = some (sz, es)) (hm : MR O F w B mem) (hv : VR F w B x y) :
    ∃ base cap, y = .slice base es.length cap ∧ (∀ e ∈ es, e.cells.length = sz) ∧ (es ≠ [] → ∃ b p xs, base = some ⟨b, p, none⟩ ∧ CR F w [] (AV.cellsAll es) xs ∧ ∀ j z, xs[j]? = some z → w.cell? ⟨b, p + j, none⟩ = some z) := by
  have fr : ∀ {sz : Nat} {es : List AV} {y : Value} {B : List Loc}, VR F w B (.fsl sz es) y → ∃ base cap, y = .slice base es.length cap ∧ (∀ e ∈ es, e.cells.length = sz) ∧ (es ≠ [] → ∃ b p xs, base = some ⟨b, p, none⟩ ∧ CR F w [] (AV.cellsAll es) xs ∧ ∀ j z, xs[j]? = some z → w.cell? ⟨b, p + j, none⟩ = some z) := by
    intro sz es y B h
    cases h with
    | fslNil base cap => exact ⟨base, cap, rfl, fun e he => by simp at he, fun h => absurd rfl h⟩
    | fsl b p cap h hs hF hx hcap => exact ⟨_, cap, rfl, hs, fun _ => ⟨b, p, _, rfl, h, hx⟩⟩
  unfold elems at h
  split at h
  · cases h; exact fr hv
  · rename_i id
    split at h
    · rename_i t sz es hi
      cases h
      have hlt := (List.getElem?_eq_some_iff.1 hi).1
      obtain ⟨l, hl⟩ : ∃ l, B[id]? = some l := ⟨_, List.getElem?_eq_getElem (by rw [hm.len]; exact hlt)⟩
      have hbr := hm.br id _ l hi hl
      match l, hbr, hl with
      | .arr sz' g n cap, ⟨h1, h2, h3, h4, xs, h5, h6⟩, hl =>
        subst h1; subst h3
        cases hv with
        | omap h => rw [hl] at h; cases h
        | oslW h => rw [hl] at h; cases h
        | osl h =>
          rw [hl] at h; cases h
          refine ⟨_, cap, rfl, h4, fun hne => ?_⟩
          rcases h5.2 with ⟨h7, h8⟩ | ⟨g', cap', cur, h7, _⟩
          · exact absurd (List.eq_nil_of_length_eq_zero h8) hne
          · cases g with
            | none => simp [head] at h7
            | some g =>
              refine ⟨g, 0, xs, rfl, h6, fun j z hz => ?_⟩
              have := h5.cells (g := g) rfl j z hz
              rw [add_plain] at this
              exact this
    · rename_i sz es hi
      cases h
      have hlt := (List.getElem?_eq_some_iff.1 hi).1
      obtain ⟨l, hl⟩ : ∃ l, B[id]? = some l := ⟨_, List.getElem?_eq_getElem (by rw [hm.len]; exact hlt)⟩
      have hbr := hm.br id _ l hi hl
      match l, hbr, hl with
      | .arr sz' g n cap, hb, hl =>
        cases hv with
        | omap h => rw [hl] at h; cases h
        | oslW h => rw [hl] at h; cases h
        | osl h => rw [hl] at h; cases h; exact fr hb
      | .wrr sz' b off n cap, hb, hl =>
        cases hv with
        | omap h => rw [hl] at h; cases h
        | osl h => rw [hl] at h; cases h
        | oslW h => rw [hl] at h; cases h; exact fr hb
    · rename_i t sz es hi
      cases h
      have hlt := (List.getElem?_eq_some_iff.1 hi).1
      obtain ⟨l, hl⟩ : ∃ l, B[id]? = some l := ⟨_, List.getElem?_eq_getElem (by rw [hm.len]; exact hlt)⟩
      have hbr := hm.br id _ l hi hl
      match l, hbr, hl with
      | .wrr sz' g off n cap, ⟨h1, h2, h3, h3', h3'', h4, cur, xs, h5, h6', h7', h6⟩, hl =>
        subst h1; subst h3
        cases hv with
        | omap h => rw [hl] at h; cases h
        | osl h => rw [hl] at h; cases h
        | oslW h =>
          rw [hl] at h; cases h
          refine ⟨_, cap, rfl, h4, fun _ => ⟨g, off, xs, rfl, h6, fun j z hz => ?_⟩⟩
          rw [← h7', List.getElem?_take] at hz
          split at hz
          · rw [List.getElem?_drop] at hz
            simp only [World.cell?, h5]
            simpa using hz
          · cases hz
    · cases h
  · cases h
    have := hv.of_v
    subst this
    exact ⟨_, _, rfl, fun e he => by simp at he, fun h => absurd rfl h⟩
  · cases h

theorem go_len (args : Array Operand) (x : Operand) (t : TypeId) (ats : Array TypeId) (n : Int) (ho : o.op = .call { callee := .builtin .len, args := args, argTypes := ats }) (h0 : ats[0]? = some t) (ha : args[0]? = some x)
    (hx : (P.underlying t = some .string ∧ ∃ s, (compOpd x).ev ts = .v (.string s) ∧ n = s.size) ∨ (∃ e, P.underlying t = some (.slice e) ∧ ∃ sz es, elems mem ((compOpd x).ev ts) = some (sz, es) ∧ n = es.length))
    (hm : MR O F w B mem) (ht : TR F w B ts a) : Goes P O F w B o a (.ret (.v (.int .i64 n))) mem := by
  have h := opd_ok ht x
  refine .pure (x := .int .i64 n) ?_ hm (.v _)
  rcases hx with ⟨hu, s, hx, rfl⟩ | ⟨e, hu, sz, es, hx, rfl⟩
  · rw [hx] at h
    simp [execOp, ho, resolve, invoke, builtin, Builtin.len_, h0, ha, run_under hu, h.of_v, goInt]
  · obtain ⟨base, cap, e, _⟩ := elems_ok hx hm h
    simp [execOp, ho, resolve, invoke, builtin, Builtin.len_, h0, ha, run_under hu, e, goInt]

theorem go_lenA (args : Array Operand) (x : Operand) (t e : TypeId) (ats : Array TypeId) (n : Nat) (ho : o.op = .call { callee := .builtin .len, args := args, argTypes := ats }) (h0 : ats[0]? = some t) (ha : args[0]? = some x) (hu : P.underlying t = some (.array n e))
    (hm : MR O F w B mem) : Goes P O F w B o a (.ret (.v (.int .i64 n))) mem := by
  refine .pure (x := .int .i64 n) ?_ hm (.v _)
  simp [execOp, ho, resolve, invoke, builtin, Builtin.len_, h0, ha, run_under hu, goInt]

end
end Go.Proofs.YtajpaagbfmjacaaGreatDoor.Am
