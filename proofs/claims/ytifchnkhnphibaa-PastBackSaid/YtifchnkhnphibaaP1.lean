/-
  THE BITS OF FLOATS, plainly.
-/
import Derived.Test.YtifchnkhnphibaaP0
namespace Go.Proofs.Ytifchnkhnphibaa.Am
set_option linter.unusedSimpArgs false
set_option linter.unusedVariables false
open Go

def canon (x : Nat) : Nat := if x = 9223372036854775808 then 0 else if 9218868437227405312 < x % 9223372036854775808 then 9221120237041090561 else x
def rcode (x : Nat) : Nat := if 9223372036854775808 ≤ canon x then 18446744073709551615 - canon x else canon x + 9223372036854775808
/-- The bits that a code would be of. -/
def rback (c : Nat) : Nat := if 9223372036854775808 ≤ c then c - 9223372036854775808 else 18446744073709551615 - c
def rdec (c : Nat) : Option Nat := if rcode (rback c) = c then some (rback c) else none

theorem canon_nan {x : Nat} (h : 9218868437227405312 < x % 9223372036854775808) : canon x = 9221120237041090561 := by unfold canon; rw [if_neg (by omega), if_pos h]
theorem canon_nought {x : Nat} (hx : x < 18446744073709551616) (h : x % 9223372036854775808 = 0) : canon x = 0 := by unfold canon; split <;> (try split) <;> omega
theorem canon_other {x : Nat} (h1 : ¬ 9218868437227405312 < x % 9223372036854775808) (h : ¬ x % 9223372036854775808 = 0) : canon x = x := by unfold canon; rw [if_neg (by omega), if_neg h1]
theorem canon_lt {x : Nat} (h : x < 18446744073709551616) : canon x < 18446744073709551616 := by unfold canon; split <;> (try split) <;> omega
theorem rcode_lt {x : Nat} (h : x < 18446744073709551616) : rcode x < 18446744073709551616 := by
  have := canon_lt h
  unfold rcode; split <;> omega
theorem rback_lt {x : Nat} (h : x < 18446744073709551616) : rback x < 18446744073709551616 := by unfold rback; split <;> omega
theorem rback_rcode {x : Nat} (h : x < 18446744073709551616) : rback (rcode x) = canon x := by
  have := canon_lt h
  unfold rcode; split <;> (unfold rback; split <;> omega)
theorem canon_idem {x : Nat} : canon (canon x) = canon x := by
  unfold canon; split <;> (try split) <;> simp_all
theorem canon_sign (x : Nat) : canon x ≠ 9223372036854775808 := by
  unfold canon; split <;> (try split) <;> omega
theorem rdec_rcode {x : Nat} (h : x < 18446744073709551616) : rdec (rcode x) = some (canon x) := by
  have e : rcode (canon x) = rcode x := by unfold rcode; rw [canon_idem]
  unfold rdec; rw [rback_rcode h, e, if_pos rfl]
theorem rdec_some {c b : Nat} (hc : c < 18446744073709551616) (h : rdec c = some b) : rcode b = c ∧ canon b = b ∧ b < 18446744073709551616 := by
  unfold rdec at h
  split at h
  · rename_i hh
    cases h
    have hb := rback_lt hc
    refine ⟨hh, ?_, hb⟩
    have := rback_rcode hb
    rw [hh] at this
    exact this.symm
  · cases h

/-! ### The machine's bits -/
theorem ofInt_nat (n : Nat) : BitVec.ofInt 64 (n : Int) = BitVec.ofNat 64 n := by simp
theorem u64_in (n : Int) (h : 0 ≤ n ∧ n < 18446744073709551616) : IntKind.wrap .u64 n = n := IntWalk.u64_in n ⟨h.1, by omega⟩
theorem toNat_of {n : Nat} (h : n < 18446744073709551616) : (BitVec.ofNat 64 n).toNat = n := by rw [BitVec.toNat_ofNat]; omega

theorem and_sign (x : Nat) (h : x < 18446744073709551616) : (andI .u64 (x : Int) 9223372036854775808 != 0) = decide (9223372036854775808 ≤ x) := by
  have e : (BitVec.ofInt 64 (x : Int) &&& BitVec.ofInt 64 9223372036854775808).toNat = x &&& 2 ^ 63 := by
    rw [ofInt_nat, show BitVec.ofInt 64 9223372036854775808 = BitVec.ofNat 64 (2 ^ 63) by decide, BitVec.toNat_and, toNat_of h, toNat_of (by decide)]
  have hand : x &&& 2 ^ 63 = (x.testBit 63).toNat * 2 ^ 63 := by
    apply Nat.eq_of_testBit_eq
    intro i
    rw [Nat.testBit_and, Nat.testBit_two_pow]
    by_cases hi : 63 = i
    · subst hi
      cases hb : x.testBit 63
      · simp
      · simp only [Bool.toNat_true, Nat.one_mul, Nat.testBit_two_pow, decide_true, Bool.and_true]
    · cases hb : x.testBit 63
      · simp [hi]
      · simp only [Bool.toNat_true, Nat.one_mul, Nat.testBit_two_pow, hi, decide_false, Bool.and_false]
  have e' : andI .u64 (x : Int) 9223372036854775808 = IntKind.wrap .u64 ((x &&& 2 ^ 63 : Nat) : Int) := by rw [← e]; rfl
  rw [e', hand]
  have ht : x.testBit 63 = decide (9223372036854775808 ≤ x) := by
    rw [Nat.testBit_eq_decide_div_mod_eq, show (2 : Nat) ^ 63 = 9223372036854775808 by decide]
    congr 1
    apply propext
    omega
  rw [ht]
  by_cases hx : 9223372036854775808 ≤ x
  · simp [hx]; decide
  · simp [hx]; decide

theorem or_sign (x : Nat) (h : x < 9223372036854775808) : orI .u64 (x : Int) 9223372036854775808 = ((x + 9223372036854775808 : Nat) : Int) := by
  have e : (BitVec.ofInt 64 (x : Int) ||| BitVec.ofInt 64 9223372036854775808).toNat = x + 9223372036854775808 := by
    rw [ofInt_nat, show BitVec.ofInt 64 9223372036854775808 = BitVec.ofNat 64 (2 ^ 63) by decide, BitVec.toNat_or, toNat_of (by omega), toNat_of (by decide), Nat.or_comm]
    have := Nat.two_pow_add_eq_or_of_lt (i := 63) (b := x) (by simpa using h) 1
    rw [Nat.mul_one] at this
    rw [← this]
    omega
  refine Eq.trans (congrArg (fun n : Nat => IntKind.wrap .u64 (n : Int)) e) (u64_in _ (by omega))

theorem not_u64 (x : Nat) (h : x < 18446744073709551616) : notI .u64 (x : Int) = ((18446744073709551615 - x : Nat) : Int) := by
  have e : (BitVec.ofInt 64 18446744073709551615 ^^^ BitVec.ofInt 64 (x : Int)).toNat = 18446744073709551615 - x := by
    rw [ofInt_nat, show BitVec.ofInt 64 18446744073709551615 = BitVec.allOnes 64 by decide, BitVec.allOnes_xor, BitVec.toNat_not, toNat_of h]
  refine Eq.trans (congrArg (fun n : Nat => IntKind.wrap .u64 (n : Int)) e) (u64_in _ (by omega))

theorem andNot_sign (x : Nat) (h : 9223372036854775808 ≤ x ∧ x < 18446744073709551616) : andNotI .u64 (x : Int) 9223372036854775808 = ((x - 9223372036854775808 : Nat) : Int) := by
  have e : (BitVec.ofInt 64 (x : Int) &&& ~~~(BitVec.ofInt 64 9223372036854775808)).toNat = x - 9223372036854775808 := by
    rw [ofInt_nat, show ~~~(BitVec.ofInt 64 9223372036854775808) = BitVec.ofNat 64 (2 ^ 63 - 1) by decide, BitVec.toNat_and, toNat_of h.2, toNat_of (by decide), Nat.and_two_pow_sub_one_eq_mod]
    omega
  refine Eq.trans (congrArg (fun n : Nat => IntKind.wrap .u64 (n : Int)) e) (u64_in _ (by omega))

/-- A number's next byte, from below. -/
theorem or_shift (a c i : Nat) (ha : a < 256 ^ i) (hc : c < 256) (hi : i ≤ 7) :
    orI .u64 (a : Int) (IntKind.wrap .u64 ((c : Int) * 2 ^ (8 * i))) = ((a + 256 ^ i * c : Nat) : Int) := by
  have e256 : (256 : Nat) ^ i = 2 ^ (8 * i) := by rw [Nat.pow_mul]
  have hp : (256 : Nat) ^ i * 256 ≤ 18446744073709551616 := by
    have : (256 : Nat) ^ (i + 1) ≤ 256 ^ 8 := Nat.pow_le_pow_right (by decide) (by omega)
    rw [Nat.pow_succ] at this; exact this
  have hlt : a + 256 ^ i * c < 18446744073709551616 := by
    have : 256 ^ i * (c + 1) ≤ 256 ^ i * 256 := Nat.mul_le_mul_left _ (by omega)
    rw [Nat.mul_add] at this; omega
  have e1 : ((c : Int) * 2 ^ (8 * i)) = ((256 ^ i * c : Nat) : Int) := by rw [e256]; push_cast; rw [Int.mul_comm]
  rw [e1, show IntKind.wrap .u64 ((256 ^ i * c : Nat) : Int) = ((256 ^ i * c : Nat) : Int) from u64_in _ (by omega)]
  have e : (BitVec.ofInt 64 (a : Int) ||| BitVec.ofInt 64 ((256 ^ i * c : Nat) : Int)).toNat = a + 256 ^ i * c := by
    rw [ofInt_nat, ofInt_nat, BitVec.toNat_or, toNat_of (by omega), toNat_of (by omega), Nat.or_comm, e256, ← Nat.two_pow_add_eq_or_of_lt (by rw [← e256]; exact ha)]
    omega
  refine Eq.trans (congrArg (fun n : Nat => IntKind.wrap .u64 (n : Int)) e) (u64_in _ (by omega))
end Go.Proofs.Ytifchnkhnphibaa.Am
