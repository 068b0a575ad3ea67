/-
  FIELDS OUT OF BYTES, plainly.
-/
import Derived.Test.YtifchnkhnphibaaP2
namespace Go.Proofs.Ytifchnkhnphibaa.Am
set_option linter.unusedSimpArgs false
set_option linter.unusedVariables false
open Go

/-- A number, and what is left. -/
def decN : List UInt8 → Option (Nat × List UInt8)
  | [] => none
  | c :: l => if 8 < c.toNat ∨ l.length < c.toNat ∨ (0 < c.toNat ∧ leB (l.take c.toNat) / 256 ^ (c.toNat - 1) = 0) then none else some (leB (l.take c.toNat), l.drop c.toNat)

/-- A field, as it is read. -/
def decG : List UInt8 → Option (Fld × List UInt8)
  | [] => none
  | c :: l => if c.toNat = 1 then (decN l).map fun p => (⟨1, p.1, ⟨#[]⟩, 0⟩, p.2)
    else if c.toNat = 2 then (decN l).bind fun p => if p.2.length < min p.1 8001 then none else some (⟨2, 0, ⟨(p.2.take (min p.1 8001)).toArray⟩, 0⟩, p.2.drop (min p.1 8001))
    else if c.toNat = 3 then (if l.length < 8 then none else (rdec (leB (l.take 8))).map fun x => (⟨3, 0, ⟨#[]⟩, x⟩, l.drop 8))
    else some (⟨c.toNat, 0, ⟨#[]⟩, 0⟩, l)

/-- A field that may be. -/
def decF (l : List UInt8) : Option (Fld × List UInt8) := (decG l).bind fun p => if may p.1 = true then some p else none

/-- So many fields. -/
def decFs : Nat → List UInt8 → Option (List Fld × List UInt8)
  | 0, l => some ([], l)
  | n + 1, l => (decF l).bind fun p => (decFs n p.2).map fun q => (p.1 :: q.1, q.2)

/-- The fields of bytes. -/
def dec (b : List UInt8) : Option (List Fld) :=
  if 8000 < b.length then none else match b with
  | [] => none
  | c :: l => (decFs c.toNat l).bind fun p => if p.2 = [] ∧ c.toNat ≤ 200 then some p.1 else none

theorem decN_lt {l r : List UInt8} {n : Nat} (h : decN l = some (n, r)) : n < 18446744073709551616 := by
  cases l with
  | nil => cases h
  | cons c l =>
    simp only [decN] at h
    split at h
    · cases h
    · rename_i hc
      cases h
      have h1 := leB_lt (l.take c.toNat)
      have h2 : 256 ^ (l.take c.toNat).length ≤ 256 ^ 8 := Nat.pow_le_pow_right (by decide) (by rw [List.length_take]; omega)
      have : (256 : Nat) ^ 8 = 18446744073709551616 := by decide
      omega
end Go.Proofs.Ytifchnkhnphibaa.Am
