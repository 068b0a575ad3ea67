/-
  SETS OF MEMBERS, plainly: no program in sight.
-/
import Derived.Test.YtjmgnodeohmboaaDoorAmJ
import Derived.Test.YtjmgnodeohmboaaDoorP0
namespace Go.Proofs.YtjmgnodeohmboaaDoor.Am
set_option linter.unusedSimpArgs false
set_option linter.unusedVariables false
open Go

/-- A member's bit. -/
def bitS (i : Nat) : Nat := if i < 16 then 2 ^ i else 0
def hasS (m i : Nat) : Bool := m.testBit i
def withS (m i : Nat) : Nat := m ||| bitS i
def withoutS (m i : Nat) : Nat := (BitVec.ofNat 16 m &&& ~~~(BitVec.ofNat 16 (bitS i))).toNat
def listS (m : Nat) : List Nat := (List.range 16).filter fun i => hasS m i
def sizeS (m : Nat) : Nat := (listS m).length

theorem bitS_lt (i : Nat) : bitS i < 65536 := by
  unfold bitS
  split
  · rename_i h
    exact Nat.lt_of_le_of_lt (Nat.pow_le_pow_right (by decide) (show i ≤ 15 by omega)) (by decide)
  · decide
theorem has_lt {m i : Nat} (hm : m < 65536) (h : hasS m i = true) : i < 16 := by
  apply Nat.lt_of_not_le
  intro hi
  have : m < 2 ^ i := Nat.lt_of_lt_of_le hm (by rw [show 65536 = 2 ^ 16 from rfl]; exact Nat.pow_le_pow_right (by decide) hi)
  rw [hasS, Nat.testBit_lt_two_pow this] at h
  cases h
theorem has_ge {m i : Nat} (hm : m < 65536) (h : 16 ≤ i) : hasS m i = false := by
  rw [← Bool.not_eq_true]; intro hh; have := has_lt hm hh; omega
theorem withS_lt {m : Nat} (hm : m < 65536) (i : Nat) : withS m i < 65536 := by
  unfold withS
  exact Nat.or_lt_two_pow (n := 16) hm (bitS_lt i)
theorem has_le {m i : Nat} (h : hasS m i = true) : 2 ^ i ≤ m := by
  apply Nat.le_of_not_lt
  intro hlt
  rw [hasS, Nat.testBit_lt_two_pow hlt] at h
  cases h
theorem withoutS_lt (m i : Nat) : withoutS m i < 65536 := (BitVec.ofNat 16 m &&& ~~~(BitVec.ofNat 16 (bitS i))).isLt
theorem bit_has (i j : Nat) : (bitS i).testBit j = (decide (i = j) && decide (i < 16)) := by
  unfold bitS
  split
  · rename_i h; simp [Nat.testBit_two_pow, h]
  · rename_i h; simp [h]
theorem has_with {m : Nat} (i j : Nat) : hasS (withS m i) j = (hasS m j || (decide (i = j) && decide (i < 16))) := by
  unfold hasS withS
  rw [Nat.testBit_or, bit_has]
theorem and_pow (m i : Nat) : (m &&& 2 ^ i != 0) = m.testBit i := by
  rw [Bool.eq_iff_iff]
  simp only [bne_iff_ne]
  constructor
  · intro h
    apply Classical.byContradiction
    intro hb
    apply h
    apply Nat.eq_of_testBit_eq
    intro j
    rw [Nat.testBit_and, Nat.testBit_two_pow, Nat.zero_testBit]
    by_cases hij : i = j
    · subst hij; simp at hb; simp [hb]
    · simp [hij]
  · intro h h0
    have := congrArg (fun x => x.testBit i) h0
    simp [Nat.testBit_and, h] at this
theorem has_and_bit {m : Nat} (hm : m < 65536) (i : Nat) : (m &&& bitS i != 0) = hasS m i := by
  unfold bitS
  split
  · rw [and_pow]; rfl
  · rename_i h
    rw [Nat.and_zero, has_ge hm (i := i) (by omega)]; rfl
theorem has_div {m i : Nat} : (m / 2 ^ i % 2 == 1) = hasS m i := by
  unfold hasS
  rw [Nat.testBit_eq_decide_div_mod_eq]
  rfl
theorem has_zero (i : Nat) : hasS 0 i = false := by simp [hasS]

/-- m without bit i has all other bits. -/
theorem has_without {m : Nat} (hm : m < 65536) (i j : Nat) : hasS (withoutS m i) j = (hasS m j && !decide (i = j)) := by
  unfold withoutS hasS
  rw [BitVec.testBit_toNat, BitVec.getLsbD_and, BitVec.getLsbD_not, BitVec.getLsbD_ofNat, BitVec.getLsbD_ofNat, bit_has]
  by_cases hj : j < 16
  · by_cases hij : i = j
    · subst hij; simp [hj]
    · simp [hj, hij]
  · have := has_ge hm (i := j) (by omega)
    unfold hasS at this
    simp [this]
theorem pow_bv {i : Nat} (hi : i < 16) : BitVec.ofNat 16 (bitS i) = BitVec.twoPow 16 i := by
  apply BitVec.eq_of_getLsbD_eq
  intro j hj
  rw [BitVec.getLsbD_ofNat, bit_has, BitVec.getLsbD_twoPow]
  simp [hj, hi, Bool.and_comm]
theorem bv_sub (x : BitVec 16) (i : Nat) (hi : i < 16) (h : x.getLsbD i = true) : (x &&& ~~~(BitVec.twoPow 16 i)) + BitVec.twoPow 16 i = x := by
  rw [BitVec.add_eq_or_of_and_eq_zero]
  · apply BitVec.eq_of_getLsbD_eq
    intro j hj
    simp only [BitVec.getLsbD_or, BitVec.getLsbD_and, BitVec.getLsbD_not, BitVec.getLsbD_twoPow, hj, decide_true, Bool.true_and]
    by_cases hij : i = j
    · subst hij; simp [h, hi]
    · simp [hij]
  · apply BitVec.eq_of_getLsbD_eq
    intro j hj
    simp [BitVec.getLsbD_twoPow]
    intro h1 h2 h3 h4
    rcases h3 with h3 | h3
    · omega
    · exact h3
theorem without_sub {m i : Nat} (hm : m < 65536) (hi : i < 16) (h : hasS m i = true) : withoutS m i = m - 2 ^ i := by
  have hx : (BitVec.ofNat 16 m).getLsbD i = true := by rw [BitVec.getLsbD_ofNat]; simp [hi]; exact h
  have e := congrArg BitVec.toNat (bv_sub (BitVec.ofNat 16 m) i hi hx)
  have hp : 2 ^ i < 65536 := by have := bitS_lt i; rwa [bitS, if_pos hi] at this
  have hle := has_le h
  rw [← pow_bv hi, BitVec.toNat_add, BitVec.toNat_ofNat, BitVec.toNat_ofNat] at e
  have e2 : bitS i = 2 ^ i := by rw [bitS, if_pos hi]
  have hlt := withoutS_lt m i
  unfold withoutS at hlt ⊢
  rw [e2] at e hlt ⊢
  generalize (BitVec.ofNat 16 m &&& ~~~BitVec.ofNat 16 (2 ^ i)).toNat = k at e hlt ⊢
  generalize 2 ^ i = p at e hp hle ⊢
  omega
theorem without_no {m i : Nat} (hm : m < 65536) (h : hasS m i = false) : withoutS m i = m := by
  apply Nat.eq_of_testBit_eq
  intro j
  have := has_without hm i j
  unfold hasS at this h
  rw [this]
  by_cases hij : i = j
  · subst hij; simp [h]
  · simp [hij]
theorem with_add {m i : Nat} (hm : m < 65536) (hi : i < 16) (h : hasS m i = false) : withS m i = m + 2 ^ i := by
  have e2 : bitS i = 2 ^ i := by rw [bitS, if_pos hi]
  have hw := withS_lt hm i
  have h1 : hasS (withS m i) i = true := by rw [has_with]; simp [hi]
  have h2 := without_sub hw hi h1
  have h3 : withoutS (withS m i) i = m := by
    apply Nat.eq_of_testBit_eq
    intro j
    have := has_without hw i j
    rw [has_with] at this
    unfold hasS at this h
    rw [this]
    by_cases hij : i = j
    · subst hij; simp [h]
    · simp [hij]
  have := has_le h1
  omega
theorem with_same {m i : Nat} (h : hasS m i = true) : withS m i = m := by
  apply Nat.eq_of_testBit_eq
  intro j
  have := has_with (m := m) i j
  unfold hasS at this h
  rw [this]
  by_cases hij : i = j
  · subst hij; simp [h]
  · simp [hij]
theorem with_big {m i : Nat} (h : 16 ≤ i) : withS m i = m := by unfold withS bitS; rw [if_neg (by omega), Nat.or_zero]
theorem set_ext {a b : Nat} (ha : a < 65536) (hb : b < 65536) (h : ∀ i, i < 16 → hasS a i = hasS b i) : a = b := by
  apply Nat.eq_of_testBit_eq
  intro j
  by_cases hj : j < 16
  · exact h j hj
  · have h1 := has_ge ha (i := j) (by omega)
    have h2 := has_ge hb (i := j) (by omega)
    unfold hasS at h1 h2
    rw [h1, h2]

/-! ### How many -/
def cntTo (m : Nat) : Nat → Nat
  | 0 => 0
  | k + 1 => cntTo m k + (if hasS m k then 1 else 0)
theorem cnt_list (m : Nat) : ∀ k, ((List.range k).filter fun i => hasS m i).length = cntTo m k
  | 0 => rfl
  | k + 1 => by
    rw [List.range_succ, List.filter_append, List.length_append, cnt_list m k, cntTo]
    cases h : hasS m k <;> simp [h]
theorem size_cnt (m : Nat) : sizeS m = cntTo m 16 := cnt_list m 16
theorem cnt_le (m : Nat) : ∀ k, cntTo m k ≤ k
  | 0 => Nat.le_refl _
  | k + 1 => by have := cnt_le m k; rw [cntTo]; split <;> omega
theorem size_le (m : Nat) : sizeS m ≤ 16 := by rw [size_cnt]; exact cnt_le m 16
theorem cnt_congr {a b : Nat} : ∀ k, (∀ i, i < k → hasS a i = hasS b i) → cntTo a k = cntTo b k
  | 0, _ => rfl
  | k + 1, h => by rw [cntTo, cntTo, cnt_congr k (fun i hi => h i (by omega)), h k (by omega)]
theorem mem_list {m i : Nat} (hm : m < 65536) : i ∈ listS m ↔ hasS m i = true := by
  unfold listS
  rw [List.mem_filter, List.mem_range]
  exact ⟨fun h => h.2, fun h => ⟨has_lt hm h, h⟩⟩

/-! ### Numbers of members -/
def heldS (n : Int) : Int := if (if 16 < n then 16 else n) < 1 then 1 else (if 16 < n then 16 else n)
def faultyS (n : Int) : Int := (heldS n - 1) / 3
def echoesS (n : Int) : Int := (heldS n + faultyS n) / 2 + 1
theorem held_range (n : Int) : 1 ≤ heldS n ∧ heldS n ≤ 16 := by unfold heldS; split <;> split <;> omega
theorem faulty_range (n : Int) : 0 ≤ faultyS n ∧ faultyS n ≤ 5 := by have := held_range n; unfold faultyS; omega
theorem echoes_range (n : Int) : 1 ≤ echoesS n ∧ echoesS n ≤ 11 := by have := held_range n; have := faulty_range n; unfold echoesS; omega
theorem held_small {n : Nat} (h1 : 1 ≤ n) (h2 : n ≤ 16) : heldS (n : Int) = n := by unfold heldS; split <;> split <;> omega
end Go.Proofs.YtjmgnodeohmboaaDoor.Am
