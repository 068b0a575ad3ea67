/-
  BYTES AND NUMBERS, plainly: no program in sight.
-/
import Derived.Test.YtjmgnodeohmboaaDoorAmG
import Derived.IntWalk
namespace Go.Proofs.YtjmgnodeohmboaaDoor.Am
set_option linter.unusedSimpArgs false
set_option linter.unusedVariables false
open Go

/-- The lowest byte of a number. -/
def u8 (n : Nat) : UInt8 := UInt8.ofNat n
theorem u8_toNat (n : Nat) : (u8 n).toNat = n % 256 := by simp [u8, UInt8.toNat_ofNat']

/-- So many bytes of a number, the lowest first. -/
def lowB (n : Nat) : Nat → List UInt8
  | 0 => []
  | k + 1 => u8 n :: lowB (n / 256) k

theorem lowB_length (n : Nat) : ∀ k, (lowB n k).length = k
  | 0 => rfl
  | k + 1 => by simp only [lowB, List.length_cons, lowB_length _ k]

theorem lowB_snoc (n : Nat) : ∀ k, lowB n (k + 1) = lowB n k ++ [u8 (n / 256 ^ k)]
  | 0 => by simp [lowB]
  | k + 1 => by
    rw [lowB, lowB_snoc (n / 256) k, lowB]
    simp only [List.cons_append, Nat.div_div_eq_div_mul, Nat.pow_succ, Nat.mul_comm]

/-- The number of bytes, the lowest first. -/
def leB : List UInt8 → Nat
  | [] => 0
  | b :: l => b.toNat + 256 * leB l

theorem leB_lt : ∀ l : List UInt8, leB l < 256 ^ l.length
  | [] => by simp [leB]
  | b :: l => by
    have h1 := leB_lt l
    have h2 := b.toNat_lt
    simp only [leB, List.length_cons, Nat.pow_succ]
    omega

theorem leB_append : ∀ l m : List UInt8, leB (l ++ m) = leB l + 256 ^ l.length * leB m
  | [], m => by simp [leB]
  | b :: l, m => by
    simp only [List.cons_append, leB, leB_append l m, List.length_cons, Nat.pow_succ, Nat.mul_add]
    rw [show 256 ^ l.length * 256 * leB m = 256 * (256 ^ l.length * leB m) by rw [Nat.mul_comm (256 ^ l.length) 256, Nat.mul_assoc]]
    omega

theorem leB_lowB (n : Nat) : ∀ k, leB (lowB n k) = n % 256 ^ k
  | 0 => by simp [leB, lowB, Nat.mod_one]
  | k + 1 => by
    simp only [lowB, leB, leB_lowB (n / 256) k, Nat.pow_succ]
    have h := u8_toNat n
    rw [h, Nat.mul_comm (256 ^ k) 256, Nat.mod_mul]

theorem lowB_leB : ∀ l : List UInt8, lowB (leB l) l.length = l
  | [] => rfl
  | b :: l => by
    have h2 := b.toNat_lt
    have e1 : (b.toNat + 256 * leB l) / 256 = leB l := by omega
    have e2 : u8 (b.toNat + 256 * leB l) = b := by
      apply UInt8.toNat_inj.1
      rw [u8_toNat]; omega
    simp only [leB, List.length_cons, lowB, e1, e2, lowB_leB l]

/-- How many bytes a number has. -/
def nlen (n : Nat) : Nat := if h : n = 0 then 0 else nlen (n / 256) + 1
termination_by n
decreasing_by omega

theorem nlen_zero : nlen 0 = 0 := by unfold nlen; simp
theorem nlen_pos {n : Nat} (h : n ≠ 0) : nlen n = nlen (n / 256) + 1 := by rw [nlen]; simp [h]

theorem nlen_le (k : Nat) : ∀ n, nlen n ≤ k ↔ n < 256 ^ k := by
  induction k with
  | zero =>
    intro n
    by_cases h : n = 0
    · subst h; simp [nlen_zero]
    · rw [nlen_pos h]; simp; omega
  | succ k ih =>
    intro n
    by_cases h : n = 0
    · subst h; simp [nlen_zero, Nat.pow_pos]
    · rw [nlen_pos h, Nat.succ_le_succ_iff, ih, Nat.pow_succ, Nat.div_lt_iff_lt_mul (by decide)]

theorem nlen_eq {n k : Nat} (h1 : n < 256 ^ (k + 1)) (h2 : 256 ^ k ≤ n) : nlen n = k + 1 := by
  have := (nlen_le (k + 1) n).2 h1
  have h3 : ¬ nlen n ≤ k := by rw [nlen_le]; omega
  omega

theorem nlen_le8 {n : Nat} (h : n < 18446744073709551616) : nlen n ≤ 8 := (nlen_le 8 n).2 h

/-- How many bits a number has. -/
def bl (n : Nat) : Nat := if n = 0 then 0 else n.log2 + 1

theorem bl_le (n k : Nat) : bl n ≤ k ↔ n < 2 ^ k := by
  unfold bl
  split
  · rename_i h; subst h; simp [Nat.two_pow_pos]
  · rename_i h; rw [Nat.add_one_le_iff, Nat.log2_lt h]

theorem bl_nlen (n : Nat) : (bl n + 7) / 8 = nlen n := by
  have key : ∀ k, (bl n + 7) / 8 ≤ k ↔ nlen n ≤ k := fun k => by
    rw [nlen_le, show (256 : Nat) = 2 ^ 8 by rfl, ← Nat.pow_mul, ← bl_le]; omega
  have h1 := (key _).1 (Nat.le_refl _)
  have h2 := (key _).2 (Nat.le_refl (nlen n))
  omega

/-- A number's bytes: how many, and these. -/
def numB (n : Nat) : List UInt8 := u8 (nlen n) :: lowB n (nlen n)

theorem numB_length (n : Nat) : (numB n).length = nlen n + 1 := by simp [numB, lowB_length]

/-! ### Numbers of the machine -/
theorem wrap_u8_nat (n : Int) (h : 0 ≤ n) : IntKind.wrap .u8 n = ((u8 n.toNat).toNat : Int) := by
  rw [IntKind.wrap_u8, u8_toNat]; omega

theorem wrap_u8_cast (n : Nat) : IntKind.wrap .u8 (n : Int) = ((u8 n).toNat : Int) := by
  rw [wrap_u8_nat _ (by omega)]; rfl
theorem wrap_u8_div (n i : Nat) : IntKind.wrap .u8 ((n : Int) / 256 ^ i) = ((u8 (n / 256 ^ i)).toNat : Int) := by
  rw [← wrap_u8_cast, Int.natCast_ediv, Int.natCast_pow]; rfl

theorem mod_u8_div (n i : Nat) : ((n : Int) / 256 ^ i) % 256 = ((u8 (n / 256 ^ i)).toNat : Int) := by
  rw [← wrap_u8_div, IntKind.wrap_u8]

theorem cast_div_step (m i : Nat) : (m : Int) / 256 ^ i / 256 = (m : Int) / 256 ^ (i + 1) := by
  rw [Int.ediv_ediv_of_nonneg (Int.pow_nonneg (by decide)), Int.pow_succ]

theorem wrap_u8_lit (n : Nat) : IntKind.wrap .u8 (no_index (OfNat.ofNat n) : Int) = ((u8 n).toNat : Int) := wrap_u8_cast n
theorem cast_beq (a b : Nat) : ((a : Int) == (b : Int)) = (a == b) := by rw [Bool.eq_iff_iff]; simp only [beq_iff_eq]; omega
theorem cast_beq0 (a : Nat) : ((a : Int) == 0) = (a == 0) := by rw [Bool.eq_iff_iff]; simp only [beq_iff_eq]; omega
theorem cast_bne0 (a : Nat) : ((a : Int) != 0) = (a != 0) := by rw [bne, bne, cast_beq0]
theorem cast_bne (a b : Nat) : ((a : Int) != (b : Int)) = (a != b) := by rw [bne, bne, cast_beq]

theorem int_div_toNat (n : Int) (k : Nat) (h : 0 ≤ n) : (n / (k : Int)).toNat = n.toNat / k := by
  obtain ⟨m, rfl⟩ : ∃ m : Nat, n = m := ⟨n.toNat, by omega⟩
  rw [← Int.natCast_ediv]; rfl

attribute [simp] wrap_u8_lit cast_beq cast_beq0 cast_bne cast_bne0 wrap_u8_cast wrap_u8_div lowB_length
end Go.Proofs.YtjmgnodeohmboaaDoor.Am
