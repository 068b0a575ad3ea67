import Derived.Test.YtajpaagbfmjacaaGreatDoorZF2
import Derived.Test.YtajpaagbfmjacaaGreatDoorZXE
namespace Go.Proofs.YtajpaagbfmjacaaGreatDoor.Am
set_option linter.unusedSimpArgs false
set_option linter.unusedVariables false
open Go Go.Proofs
attribute [local irreducible] wpA


/-! ### Which bits are of no number, which of nought -/
def nanB (x : Nat) : Bool := decide (9218868437227405312 < x % 9223372036854775808)

theorem read_cases (x : Nat) : (nanB x = true ∧ ∃ s f, Ieee.double.read x = .nan s f) ∨ (nanB x = false ∧ ((∃ s, Ieee.double.read x = .infinity s ∧ x % 9223372036854775808 = 9218868437227405312) ∨
    ∃ s m i, Ieee.double.read x = .number s m i ∧ Ieee.double.leastPlace ≤ i ∧ (m = 0 ↔ x % 9223372036854775808 = 0))) := by
  have e1 : Ieee.double.signWeight = 9223372036854775808 := by decide
  have e2 : Ieee.double.binade = 4503599627370496 := by decide
  have e3 : Ieee.double.infRung = 9218868437227405312 := by decide
  unfold nanB Ieee.Format.read
  rw [e1, e2, e3]
  simp only []
  split
  · refine .inr ⟨by simp; omega, .inr ⟨_, _, _, rfl, Int.le_refl _, Iff.rfl⟩⟩
  · split
    · refine .inr ⟨by simp; omega, .inr ⟨_, _, _, rfl, by omega, ?_⟩⟩
      constructor <;> intro h <;> omega
    · split
      · rename_i h; refine .inr ⟨by simp; omega, .inl ⟨_, rfl, h⟩⟩
      · refine .inl ⟨by simp; omega, _, _, rfl⟩

theorem cmp_self (a : Int) : compare a a = .eq := by simp
theorem order_self (x : Nat) : (FloatKind.f64.format.order x x == some .eq) = !nanB x := by
  show (Ieee.Datum.order (Ieee.double.read x) (Ieee.double.read x) == some .eq) = _
  rcases read_cases x with ⟨h, s, f, e⟩ | ⟨h, ⟨s, e, _⟩ | ⟨s, m, i, e, _⟩⟩ <;> rw [h, e] <;> simp [Ieee.Datum.order]

theorem shl_eq (m n : Nat) : m <<< n = m * 2 ^ n := Nat.shiftLeft_eq m n
theorem order_zero (x : Nat) : (FloatKind.f64.format.order x 0 == some .eq) = decide (x % 9223372036854775808 = 0) := by
  show (Ieee.Datum.order (Ieee.double.read x) (Ieee.double.read 0) == some .eq) = _
  have e0 : Ieee.double.read 0 = .number false 0 Ieee.double.leastPlace := by decide
  rw [e0]
  rcases read_cases x with ⟨h, s, f, e⟩ | ⟨h, ⟨s, e, h1⟩ | ⟨s, m, i, e, h1, h2⟩⟩
  · rw [e]
    have : ¬ x % 9223372036854775808 = 0 := by unfold nanB at h; simp at h; omega
    simp [Ieee.Datum.order, this]
  · rw [e]
    have : ¬ x % 9223372036854775808 = 0 := by omega
    simp [Ieee.Datum.order, this]
    cases s <;> decide
  · rw [e]
    simp only [Ieee.Datum.order, Ieee.signed, shl_eq, Nat.zero_mul]
    have hp : 0 < 2 ^ (i - min i Ieee.double.leastPlace).toNat := Nat.two_pow_pos _
    generalize 2 ^ (i - min i Ieee.double.leastPlace).toNat = p at hp
    rw [Bool.eq_iff_iff]
    rw [decide_eq_true_eq, ← h2]
    simp only [beq_iff_eq, Option.some.injEq]
    rw [Std.LawfulEqOrd.compare_eq_iff_eq]
    cases s
    · simp only [Bool.false_eq_true, if_false]
      constructor
      · intro h
        have h' : m * p = 0 := by exact_mod_cast h
        rcases Nat.mul_eq_zero.1 h' with h | h <;> omega
      · rintro rfl; simp
    · simp only [if_true, Bool.false_eq_true, if_false]
      constructor
      · intro h
        have h' : m * p = 0 := by
          have : ((m * p : Nat) : Int) = 0 := by simpa using h
          exact_mod_cast this
        rcases Nat.mul_eq_zero.1 h' with h | h <;> omega
      · rintro rfl; simp
end Go.Proofs.YtajpaagbfmjacaaGreatDoor.Am
