/-
  FIELDS AND THEIR BYTES, plainly.
-/
import Derived.Test.YtifchnkhnphibaaP1
namespace Go.Proofs.Ytifchnkhnphibaa.Am
set_option linter.unusedSimpArgs false
set_option linter.unusedVariables false
open Go

structure Fld where
  kind : Int
  num : Nat
  text : ByteArray
  real : Nat

theorem Fld.eta (f : Fld) : Fld.mk f.kind f.num f.text f.real = f := rfl
def Fld.ok (f : Fld) : Bool := decide (f.num < 18446744073709551616 ∧ f.real < 18446744073709551616)
theorem Fld.ok_iff (f : Fld) : f.ok = true ↔ f.num < 18446744073709551616 ∧ f.real < 18446744073709551616 := by simp [Fld.ok]

/-- The program's fields, and the document's. -/
def av1 (f : Fld) : AV := .agg [.v (.int .i64 f.kind), .v (.int .u64 f.num), .v (.string f.text), .v (.float .f64 f.real)]
def av2 (f : Fld) : AV := .agg [.v (.int .i64 f.kind), .v (.int .u64 f.num), .v (.string f.text), .v (.int .u64 f.real)]

def un1 : AV → Option Fld
  | .agg [.v (.int .i64 k), .v (.int .u64 n), .v (.string t), .v (.float .f64 r)] => if 0 ≤ n then some ⟨k, n.toNat, t, r⟩ else none
  | _ => none
def un2 : AV → Option Fld
  | .agg [.v (.int .i64 k), .v (.int .u64 n), .v (.string t), .v (.int .u64 r)] => if 0 ≤ n ∧ 0 ≤ r then some ⟨k, n.toNat, t, r.toNat⟩ else none
  | _ => none

theorem un1_av1 (f : Fld) : un1 (av1 f) = some f := by simp [un1, av1]
theorem un2_av2 (f : Fld) : un2 (av2 f) = some f := by simp [un2, av2]
theorem un1_some {a : AV} {f : Fld} (h : un1 a = some f) : a = av1 f := by
  unfold un1 at h
  split at h
  · obtain ⟨h0, h⟩ := if_some h
    cases h
    simp only [av1, Int.toNat_of_nonneg h0]
  · cases h
theorem un2_some {a : AV} {f : Fld} (h : un2 a = some f) : a = av2 f := by
  unfold un2 at h
  split at h
  · obtain ⟨h0, h⟩ := if_some h
    cases h
    simp only [av2, Int.toNat_of_nonneg h0.1, Int.toNat_of_nonneg h0.2]
  · cases h

def uns {α : Type} (un : AV → Option α) : List AV → Option (List α)
  | [] => some []
  | a :: as => match un a, uns un as with
    | some x, some xs => some (x :: xs)
    | _, _ => none

theorem uns_map {α : Type} {un : AV → Option α} {av : α → AV} (h : ∀ x, un (av x) = some x) : ∀ l : List α, uns un (l.map av) = some l
  | [] => rfl
  | x :: l => by simp [uns, h, uns_map h l]
theorem uns_some {α : Type} {un : AV → Option α} {av : α → AV} (h : ∀ a x, un a = some x → a = av x) : ∀ (es : List AV) (l : List α), uns un es = some l → es = l.map av
  | [], l, hu => by simp [uns] at hu; subst hu; rfl
  | a :: as, l, hu => by
    simp only [uns] at hu
    split at hu
    · rename_i x xs h1 h2
      cases hu
      rw [h a x h1, uns_some h as xs h2]; rfl
    · cases hu
theorem uns1 (l : List Fld) : uns un1 (l.map av1) = some l := uns_map un1_av1 l
theorem uns2 (l : List Fld) : uns un2 (l.map av2) = some l := uns_map un2_av2 l
theorem uns1_some {es : List AV} {l : List Fld} (h : uns un1 es = some l) : es = l.map av1 := uns_some (fun _ _ h => un1_some h) es l h
theorem uns2_some {es : List AV} {l : List Fld} (h : uns un2 es = some l) : es = l.map av2 := uns_some (fun _ _ h => un2_some h) es l h

/-- May a field be? -/
def may (f : Fld) : Bool :=
  (f.kind == 1 && ((f.text == ⟨#[]⟩) && (f.real == 0))) ||
  ((f.kind == 2 && ((f.num == 0) && (f.real == 0) && decide (f.text.size ≤ 2000))) ||
  (f.kind == 3 && ((f.num == 0) && (f.text == ⟨#[]⟩) && (canon f.real == f.real))))

theorem may_kind {f : Fld} (h : may f = true) : f.kind = 1 ∨ f.kind = 2 ∨ f.kind = 3 := by
  simp only [may, Bool.or_eq_true, Bool.and_eq_true, beq_iff_eq] at h
  omega
theorem may_text {f : Fld} (h : may f = true) (hk : f.kind = 2) : f.num = 0 ∧ f.real = 0 ∧ f.text.size ≤ 2000 := by
  simp [may, hk] at h
  omega

/-- A text's bytes. -/
def tb (t : ByteArray) : List UInt8 := t.data.toList
theorem tb_length (t : ByteArray) : (tb t).length = t.size := by simp [tb]

/-- The bytes of a field. -/
def encF (f : Fld) : List UInt8 :=
  if f.kind = 1 then u8 1 :: numB f.num else if f.kind = 2 then u8 2 :: (numB f.text.size ++ tb f.text) else u8 3 :: lowB (rcode f.real) 8

theorem encF_length {f : Fld} (hm : may f = true) (hf : f.ok = true) : (encF f).length ≤ 2010 := by
  rw [Fld.ok_iff] at hf
  unfold encF
  split
  · have := nlen_le8 hf.1
    simp [numB_length]; omega
  · split
    · rename_i h1 h2
      have h3 := may_text hm h2
      have := nlen_le8 (n := f.text.size) (by omega)
      simp [numB_length, tb_length]; omega
    · simp [lowB_length]

/-- The bytes of fields, one behind the other. -/
def flatE : List Fld → List UInt8
  | [] => []
  | f :: l => encF f ++ flatE l
theorem flatE_append : ∀ l m : List Fld, flatE (l ++ m) = flatE l ++ flatE m
  | [], m => rfl
  | f :: l, m => by simp [flatE, flatE_append l m]
theorem flatE_snoc (l : List Fld) (f : Fld) : flatE (l ++ [f]) = flatE l ++ encF f := by simp [flatE_append, flatE]

/-- The bytes of fields. -/
def encAll (l : List Fld) : List UInt8 := u8 l.length :: flatE l
def encE (l : List Fld) : Nat := if l.all may = true then (if 200 < l.length ∨ 8000 < (encAll l).length then 3 else 0) else 2
def enc (l : List Fld) : List UInt8 := if encE l = 0 then encAll l else []

theorem flat_length : ∀ (l : List Fld), (∀ f ∈ l, may f = true ∧ f.ok = true) → (flatE l).length ≤ 2010 * l.length
  | [], _ => by simp [flatE]
  | f :: l, h => by
    have h1 := encF_length (h f (by simp)).1 (h f (by simp)).2
    have h2 := flat_length l (fun g hg => h g (by simp [hg]))
    simp only [flatE, List.length_append, List.length_cons]
    omega

theorem take_snoc {α : Type} {l : List α} {i : Nat} {x : α} (h : l[i]? = some x) : l.take (i + 1) = l.take i ++ [x] := by
  rw [List.take_add_one, h]; rfl

theorem un1_agg (k n : Int) (t : ByteArray) (r : Nat) (h : 0 ≤ n) : un1 (.agg [.v (.int .i64 k), .v (.int .u64 n), .v (.string t), .v (.float .f64 r)]) = some ⟨k, n.toNat, t, r⟩ := by simp [un1, h]
theorem un2_agg (k n : Int) (t : ByteArray) (r : Int) (h : 0 ≤ n) (h' : 0 ≤ r) : un2 (.agg [.v (.int .i64 k), .v (.int .u64 n), .v (.string t), .v (.int .u64 r)]) = some ⟨k, n.toNat, t, r.toNat⟩ := by simp [un2, h, h']
attribute [simp] un1_agg un2_agg uns av1 av2 Fld.eta uns1 uns2 tb_length
end Go.Proofs.Ytifchnkhnphibaa.Am
