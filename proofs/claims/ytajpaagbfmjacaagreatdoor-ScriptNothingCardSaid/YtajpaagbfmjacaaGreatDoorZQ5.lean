/-
  THE BITS OF FLOATS, plainly.
-/
import Derived.Test.YtajpaagbfmjacaaGreatDoorZQ4
import Derived.Laws.Strings
namespace Go.Proofs.YtajpaagbfmjacaaGreatDoor.Am
set_option linter.unusedSimpArgs false
set_option linter.unusedVariables false
open Go

def canon (x : Nat) : Nat := if x = 9223372036854775808 then 0 else if 9218868437227405312 < x % 9223372036854775808 then 9221120237041090561 else x
def rcode (x : Nat) : Nat := if 9223372036854775808 ≤ canon x then 18446744073709551615 - canon x else canon x + 9223372036854775808
/-- The bits that a code would be of. -/
def rback (c : Nat) : Nat := if 9223372036854775808 ≤ c then c - 9223372036854775808 else 18446744073709551615 - c
def rdec (c : Nat) : Option Nat := if rcode (rback c) = c then some (rback c) else none

theorem canon_nan {x : Nat} (h : 9218868437227405312 < x % 9223372036854775808) : canon x = 9221120237041090561 := by unfold canon; rw [if_neg (by omega), if_pos h]
theorem canon_nought {x : Nat} (hx : x < 18446744073709551616) (h : x % 9223372036854775808 = 0) : canon x = 0 := by unfold canon; split <;> (try split) <;> omega
theorem canon_other {x : Nat} (h1 : ¬ 9218868437227405312 < x % 9223372036854775808) (h : ¬ x % 9223372036854775808 = 0) : canon x = x := by unfold canon; rw [if_neg (by omega), if_neg h1]
theorem canon_lt {x : Nat} (h : x < 18446744073709551616) : canon x < 18446744073709551616 := by unfold canon; split <;> (try split) <;> omega
theorem rcode_lt {x : Nat} (h : x < 18446744073709551616) : rcode x < 18446744073709551616 := by
  have := canon_lt h
  unfold rcode; split <;> omega
theorem rback_lt {x : Nat} (h : x < 18446744073709551616) : rback x < 18446744073709551616 := by unfold rback; split <;> omega
theorem rback_rcode {x : Nat} (h : x < 18446744073709551616) : rback (rcode x) = canon x := by
  have := canon_lt h
  unfold rcode; split <;> (unfold rback; split <;> omega)
theorem canon_idem {x : Nat} : canon (canon x) = canon x := by
  unfold canon; split <;> (try split) <;> simp_all
theorem canon_sign (x : Nat) : canon x ≠ 9223372036854775808 := by
  unfold canon; split <;> (try split) <;> omega
theorem rdec_rcode {x : Nat} (h : x < 18446744073709551616) : rdec (rcode x) = some (canon x) := by
  have e : rcode (canon x) = rcode x := by unfold rcode; rw [canon_idem]
  unfold rdec; rw [rback_rcode h, e, if_pos rfl]
theorem rdec_some {c b : Nat} (hc : c < 18446744073709551616) (h : rdec c = some b) : rcode b = c ∧ canon b = b ∧ b < 18446744073709551616 := by
  unfold rdec at h
  split at h
  · rename_i hh
    cases h
    have hb := rback_lt hc
    refine ⟨hh, ?_, hb⟩
    have := rback_rcode hb
    rw [hh] at this
    exact this.symm
  · cases h

/-! ### The machine's bits -/
theorem ofInt_nat (n : Nat) : BitVec.ofInt 64 (n : Int) = BitVec.ofNat 64 n := by simp
theorem u64_in (n : Int) (h : 0 ≤ n ∧ n < 18446744073709551616) : IntKind.wrap .u64 n = n := IntWalk.u64_in n ⟨h.1, by omega⟩
theorem toNat_of {n : Nat} (h : n < 18446744073709551616) : (BitVec.ofNat 64 n).toNat = n := by rw [BitVec.toNat_ofNat]; omega

theorem and_sign (x : Nat) (h : x < 18446744073709551616) : (andI .u64 (x : Int) 9223372036854775808 != 0) = decide (9223372036854775808 ≤ x) := by
  have e : (BitVec.ofInt 64 (x : Int) &&& BitVec.ofInt 64 9223372036854775808).toNat = x &&& 2 ^ 63 := by
    rw [ofInt_nat, show BitVec.ofInt 64 9223372036854775808 = BitVec.ofNat 64 (2 ^ 63) by decide, BitVec.toNat_and, toNat_of h, toNat_of (by decide)]
  have hand : x &&& 2 ^ 63 = (x.testBit 63).toNat * 2 ^ 63 := by
    apply Nat.eq_of_testBit_eq
    intro i
    rw [Nat.testBit_and, Nat.testBit_two_pow]
    by_cases hi : 63 = i
    · subst hi
      cases hb : x.testBit 63
      · simp
      · simp only [Bool.toNat_true, Nat.one_mul, Nat.testBit_two_pow, decide_true, Bool.and_true]
    · cases hb : x.testBit 63
      · simp [hi]
      · simp only [Bool.toNat_true, Nat.one_mul, Nat.testBit_two_pow, hi, decide_false, Bool.and_false]
  have e' : andI .u64 (x : Int) 9223372036854775808 = IntKind.wrap .u64 ((x &&& 2 ^ 63 : Nat) : Int) := by rw [← e]; rfl
  rw [e', hand]
  have ht : x.testBit 63 = decide (9223372036854775808 ≤ x) := by
    rw [Nat.testBit_eq_decide_div_mod_eq, show (2 : Nat) ^ 63 = 9223372036854775808 by decide]
    congr 1
    apply propext
    omega
  rw [ht]
  by_cases hx : 9223372036854775808 ≤ x
  · simp [hx]; decide
  · simp [hx]; decide

theorem or_sign (x : Nat) (h : x < 9223372036854775808) : orI .u64 (x : Int) 9223372036854775808 = ((x + 9223372036854775808 : Nat) : Int) := by
  have e : (BitVec.ofInt 64 (x : Int) ||| BitVec.ofInt 64 9223372036854775808).toNat = x + 9223372036854775808 := by
    rw [ofInt_nat, show BitVec.ofInt 64 9223372036854775808 = BitVec.ofNat 64 (2 ^ 63) by decide, BitVec.toNat_or, toNat_of (by omega), toNat_of (by decide), Nat.or_comm]
    have := Nat.two_pow_add_eq_or_of_lt (i := 63) (b := x) (by simpa using h) 1
    rw [Nat.mul_one] at this
    rw [← this]
    omega
  refine Eq.trans (congrArg (fun n : Nat => IntKind.wrap .u64 (n : Int)) e) (u64_in _ (by omega))

theorem not_u64 (x : Nat) (h : x < 18446744073709551616) : notI .u64 (x : Int) = ((18446744073709551615 - x : Nat) : Int) := by
  have e : (BitVec.ofInt 64 18446744073709551615 ^^^ BitVec.ofInt 64 (x : Int)).toNat = 18446744073709551615 - x := by
    rw [ofInt_nat, show BitVec.ofInt 64 18446744073709551615 = BitVec.allOnes 64 by decide, BitVec.allOnes_xor, BitVec.toNat_not, toNat_of h]
  refine Eq.trans (congrArg (fun n : Nat => IntKind.wrap .u64 (n : Int)) e) (u64_in _ (by omega))

theorem andNot_sign (x : Nat) (h : 9223372036854775808 ≤ x ∧ x < 18446744073709551616) : andNotI .u64 (x : Int) 9223372036854775808 = ((x - 9223372036854775808 : Nat) : Int) := by
  have e : (BitVec.ofInt 64 (x : Int) &&& ~~~(BitVec.ofInt 64 9223372036854775808)).toNat = x - 9223372036854775808 := by
    rw [ofInt_nat, show ~~~(BitVec.ofInt 64 9223372036854775808) = BitVec.ofNat 64 (2 ^ 63 - 1) by decide, BitVec.toNat_and, toNat_of h.2, toNat_of (by decide), Nat.and_two_pow_sub_one_eq_mod]
    omega
  refine Eq.trans (congrArg (fun n : Nat => IntKind.wrap .u64 (n : Int)) e) (u64_in _ (by omega))

/-- A number's next byte, from below. -/
theorem or_shift (a c i : Nat) (ha : a < 256 ^ i) (hc : c < 256) (hi : i ≤ 7) :
    orI .u64 (a : Int) (IntKind.wrap .u64 ((c : Int) * 2 ^ (8 * i))) = ((a + 256 ^ i * c : Nat) : Int) := by
  have e256 : (256 : Nat) ^ i = 2 ^ (8 * i) := by rw [Nat.pow_mul]
  have hp : (256 : Nat) ^ i * 256 ≤ 18446744073709551616 := by
    have : (256 : Nat) ^ (i + 1) ≤ 256 ^ 8 := Nat.pow_le_pow_right (by decide) (by omega)
    rw [Nat.pow_succ] at this; exact this
  have hlt : a + 256 ^ i * c < 18446744073709551616 := by
    have : 256 ^ i * (c + 1) ≤ 256 ^ i * 256 := Nat.mul_le_mul_left _ (by omega)
    rw [Nat.mul_add] at this; omega
  have e1 : ((c : Int) * 2 ^ (8 * i)) = ((256 ^ i * c : Nat) : Int) := by rw [e256]; push_cast; rw [Int.mul_comm]
  rw [e1, show IntKind.wrap .u64 ((256 ^ i * c : Nat) : Int) = ((256 ^ i * c : Nat) : Int) from u64_in _ (by omega)]
  have e : (BitVec.ofInt 64 (a : Int) ||| BitVec.ofInt 64 ((256 ^ i * c : Nat) : Int)).toNat = a + 256 ^ i * c := by
    rw [ofInt_nat, ofInt_nat, BitVec.toNat_or, toNat_of (by omega), toNat_of (by omega), Nat.or_comm, e256, ← Nat.two_pow_add_eq_or_of_lt (by rw [← e256]; exact ha)]
    omega
  refine Eq.trans (congrArg (fun n : Nat => IntKind.wrap .u64 (n : Int)) e) (u64_in _ (by omega))
end Go.Proofs.YtajpaagbfmjacaaGreatDoor.Am
/-
  FIELDS AND THEIR BYTES, plainly.
-/
namespace Go.Proofs.YtajpaagbfmjacaaGreatDoor.Am
set_option linter.unusedSimpArgs false
set_option linter.unusedVariables false
open Go

structure Fld where
  kind : Int
  num : Nat
  text : ByteArray
  real : Nat

theorem Fld.eta (f : Fld) : Fld.mk f.kind f.num f.text f.real = f := rfl
def Fld.ok (f : Fld) : Bool := decide (f.num < 18446744073709551616 ∧ f.real < 18446744073709551616)
theorem Fld.ok_iff (f : Fld) : f.ok = true ↔ f.num < 18446744073709551616 ∧ f.real < 18446744073709551616 := by simp [Fld.ok]

/-- The program's fields, and the document's. -/
def av1 (f : Fld) : AV := .agg [.v (.int .i64 f.kind), .v (.int .u64 f.num), .v (.string f.text), .v (.float .f64 f.real)]
def av2 (f : Fld) : AV := .agg [.v (.int .i64 f.kind), .v (.int .u64 f.num), .v (.string f.text), .v (.int .u64 f.real)]

def un1 : AV → Option Fld
  | .agg [.v (.int .i64 k), .v (.int .u64 n), .v (.string t), .v (.float .f64 r)] => if 0 ≤ n then some ⟨k, n.toNat, t, r⟩ else none
  | _ => none
def un2 : AV → Option Fld
  | .agg [.v (.int .i64 k), .v (.int .u64 n), .v (.string t), .v (.int .u64 r)] => if 0 ≤ n ∧ 0 ≤ r then some ⟨k, n.toNat, t, r.toNat⟩ else none
  | _ => none

theorem un1_av1 (f : Fld) : un1 (av1 f) = some f := by simp [un1, av1]
theorem un2_av2 (f : Fld) : un2 (av2 f) = some f := by simp [un2, av2]
theorem un1_some {a : AV} {f : Fld} (h : un1 a = some f) : a = av1 f := by
  unfold un1 at h
  split at h
  · obtain ⟨h0, h⟩ := if_some h
    cases h
    simp only [av1, Int.toNat_of_nonneg h0]
  · cases h
theorem un2_some {a : AV} {f : Fld} (h : un2 a = some f) : a = av2 f := by
  unfold un2 at h
  split at h
  · obtain ⟨h0, h⟩ := if_some h
    cases h
    simp only [av2, Int.toNat_of_nonneg h0.1, Int.toNat_of_nonneg h0.2]
  · cases h

def uns {α : Type} (un : AV → Option α) : List AV → Option (List α)
  | [] => some []
  | a :: as => match un a, uns un as with
    | some x, some xs => some (x :: xs)
    | _, _ => none

theorem uns_map {α : Type} {un : AV → Option α} {av : α → AV} (h : ∀ x, un (av x) = some x) : ∀ l : List α, uns un (l.map av) = some l
  | [] => rfl
  | x :: l => by simp [uns, h, uns_map h l]
theorem uns_some {α : Type} {un : AV → Option α} {av : α → AV} (h : ∀ a x, un a = some x → a = av x) : ∀ (es : List AV) (l : List α), uns un es = some l → es = l.map av
  | [], l, hu => by simp [uns] at hu; subst hu; rfl
  | a :: as, l, hu => by
    simp only [uns] at hu
    split at hu
    · rename_i x xs h1 h2
      cases hu
      rw [h a x h1, uns_some h as xs h2]; rfl
    · cases hu
theorem uns1 (l : List Fld) : uns un1 (l.map av1) = some l := uns_map un1_av1 l
theorem uns2 (l : List Fld) : uns un2 (l.map av2) = some l := uns_map un2_av2 l
theorem uns1_some {es : List AV} {l : List Fld} (h : uns un1 es = some l) : es = l.map av1 := uns_some (fun _ _ h => un1_some h) es l h
theorem uns2_some {es : List AV} {l : List Fld} (h : uns un2 es = some l) : es = l.map av2 := uns_some (fun _ _ h => un2_some h) es l h

/-- May a field be? -/
def may (f : Fld) : Bool :=
  (f.kind == 1 && ((f.text == ⟨#[]⟩) && (f.real == 0))) ||
  ((f.kind == 2 && ((f.num == 0) && (f.real == 0) && decide (f.text.size ≤ 2000))) ||
  (f.kind == 3 && ((f.num == 0) && (f.text == ⟨#[]⟩) && (canon f.real == f.real))))

theorem may_kind {f : Fld} (h : may f = true) : f.kind = 1 ∨ f.kind = 2 ∨ f.kind = 3 := by
  simp only [may, Bool.or_eq_true, Bool.and_eq_true, beq_iff_eq] at h
  omega
theorem may_text {f : Fld} (h : may f = true) (hk : f.kind = 2) : f.num = 0 ∧ f.real = 0 ∧ f.text.size ≤ 2000 := by
  simp [may, hk] at h
  omega

/-- A text's bytes. -/
def tb (t : ByteArray) : List UInt8 := t.data.toList
theorem tb_length (t : ByteArray) : (tb t).length = t.size := by simp [tb]

/-- The bytes of a field. -/
def encF (f : Fld) : List UInt8 :=
  if f.kind = 1 then u8 1 :: numB f.num else if f.kind = 2 then u8 2 :: (numB f.text.size ++ tb f.text) else u8 3 :: lowB (rcode f.real) 8

theorem encF_length {f : Fld} (hm : may f = true) (hf : f.ok = true) : (encF f).length ≤ 2010 := by
  rw [Fld.ok_iff] at hf
  unfold encF
  split
  · have := nlen_le8 hf.1
    simp [numB_length]; omega
  · split
    · rename_i h1 h2
      have h3 := may_text hm h2
      have := nlen_le8 (n := f.text.size) (by omega)
      simp [numB_length, tb_length]; omega
    · simp [lowB_length]

/-- The bytes of fields, one behind the other. -/
def flatE : List Fld → List UInt8
  | [] => []
  | f :: l => encF f ++ flatE l
theorem flatE_append : ∀ l m : List Fld, flatE (l ++ m) = flatE l ++ flatE m
  | [], m => rfl
  | f :: l, m => by simp [flatE, flatE_append l m]
theorem flatE_snoc (l : List Fld) (f : Fld) : flatE (l ++ [f]) = flatE l ++ encF f := by simp [flatE_append, flatE]

/-- The bytes of fields. -/
def encAll (l : List Fld) : List UInt8 := u8 l.length :: flatE l
def encE (l : List Fld) : Nat := if l.all may = true then (if 200 < l.length ∨ 8000 < (encAll l).length then 3 else 0) else 2
def enc (l : List Fld) : List UInt8 := if encE l = 0 then encAll l else []

theorem flat_length : ∀ (l : List Fld), (∀ f ∈ l, may f = true ∧ f.ok = true) → (flatE l).length ≤ 2010 * l.length
  | [], _ => by simp [flatE]
  | f :: l, h => by
    have h1 := encF_length (h f (by simp)).1 (h f (by simp)).2
    have h2 := flat_length l (fun g hg => h g (by simp [hg]))
    simp only [flatE, List.length_append, List.length_cons]
    omega

theorem take_snoc {α : Type} {l : List α} {i : Nat} {x : α} (h : l[i]? = some x) : l.take (i + 1) = l.take i ++ [x] := by
  rw [List.take_add_one, h]; rfl

theorem un1_agg (k n : Int) (t : ByteArray) (r : Nat) (h : 0 ≤ n) : un1 (.agg [.v (.int .i64 k), .v (.int .u64 n), .v (.string t), .v (.float .f64 r)]) = some ⟨k, n.toNat, t, r⟩ := by simp [un1, h]
theorem un2_agg (k n : Int) (t : ByteArray) (r : Int) (h : 0 ≤ n) (h' : 0 ≤ r) : un2 (.agg [.v (.int .i64 k), .v (.int .u64 n), .v (.string t), .v (.int .u64 r)]) = some ⟨k, n.toNat, t, r.toNat⟩ := by simp [un2, h, h']
attribute [simp] un1_agg un2_agg uns av1 av2 Fld.eta uns1 uns2 tb_length
end Go.Proofs.YtajpaagbfmjacaaGreatDoor.Am
/-
  FIELDS OUT OF BYTES, plainly.
-/
namespace Go.Proofs.YtajpaagbfmjacaaGreatDoor.Am
set_option linter.unusedSimpArgs false
set_option linter.unusedVariables false
open Go

/-- A number, and what is left. -/
def decN : List UInt8 → Option (Nat × List UInt8)
  | [] => none
  | c :: l => if 8 < c.toNat ∨ l.length < c.toNat ∨ (0 < c.toNat ∧ leB (l.take c.toNat) / 256 ^ (c.toNat - 1) = 0) then none else some (leB (l.take c.toNat), l.drop c.toNat)

/-- A field, as it is read. -/
def decG : List UInt8 → Option (Fld × List UInt8)
  | [] => none
  | c :: l => if c.toNat = 1 then (decN l).map fun p => (⟨1, p.1, ⟨#[]⟩, 0⟩, p.2)
    else if c.toNat = 2 then (decN l).bind fun p => if p.2.length < min p.1 8001 then none else some (⟨2, 0, ⟨(p.2.take (min p.1 8001)).toArray⟩, 0⟩, p.2.drop (min p.1 8001))
    else if c.toNat = 3 then (if l.length < 8 then none else (rdec (leB (l.take 8))).map fun x => (⟨3, 0, ⟨#[]⟩, x⟩, l.drop 8))
    else some (⟨c.toNat, 0, ⟨#[]⟩, 0⟩, l)

/-- A field that may be. -/
def decF (l : List UInt8) : Option (Fld × List UInt8) := (decG l).bind fun p => if may p.1 = true then some p else none

/-- So many fields. -/
def decFs : Nat → List UInt8 → Option (List Fld × List UInt8)
  | 0, l => some ([], l)
  | n + 1, l => (decF l).bind fun p => (decFs n p.2).map fun q => (p.1 :: q.1, q.2)

/-- The fields of bytes. -/
def dec (b : List UInt8) : Option (List Fld) :=
  if 8000 < b.length then none else match b with
  | [] => none
  | c :: l => (decFs c.toNat l).bind fun p => if p.2 = [] ∧ c.toNat ≤ 200 then some p.1 else none

theorem decN_lt {l r : List UInt8} {n : Nat} (h : decN l = some (n, r)) : n < 18446744073709551616 := by
  cases l with
  | nil => cases h
  | cons c l =>
    simp only [decN] at h
    split at h
    · cases h
    · rename_i hc
      cases h
      have h1 := leB_lt (l.take c.toNat)
      have h2 : 256 ^ (l.take c.toNat).length ≤ 256 ^ 8 := Nat.pow_le_pow_right (by decide) (by rw [List.length_take]; omega)
      have : (256 : Nat) ^ 8 = 18446744073709551616 := by decide
      omega
end Go.Proofs.YtajpaagbfmjacaaGreatDoor.Am
/-
  FIELDS COME BACK FROM THEIR BYTES, AND BYTES THAT HAVE FIELDS ARE THEIRS: plainly.
-/
namespace Go.Proofs.YtajpaagbfmjacaaGreatDoor.Am
set_option linter.unusedSimpArgs false
set_option linter.unusedVariables false
open Go

theorem u8_small {n : Nat} (h : n < 256) : (u8 n).toNat = n := by rw [u8_toNat]; omega
theorem u8_back (c : UInt8) : u8 c.toNat = c := by
  apply UInt8.toNat_inj.1
  rw [u8_toNat]
  have := c.toNat_lt
  omega

theorem tb_mk (l : List UInt8) : tb ⟨l.toArray⟩ = l := by simp [tb]
theorem mk_tb (t : ByteArray) : (⟨(tb t).toArray⟩ : ByteArray) = t := by cases t; simp [tb]
theorem size_mk (l : List UInt8) : ByteArray.size ⟨l.toArray⟩ = l.length := by rw [← tb_length, tb_mk]
theorem size_zero {t : ByteArray} (h : t.size = 0) : t = ⟨#[]⟩ := by
  rw [← mk_tb t]
  have : tb t = [] := List.length_eq_zero_iff.1 (by rw [tb_length]; exact h)
  rw [this]

theorem beq_bytes4 (a b : ByteArray) : (a == b) = true ↔ a = b := by
  constructor
  · intro h
    rw [← string_beq, beq_iff_eq] at h
    rw [← mk_tb a, ← mk_tb b]
    have ha : tb a = a.toList := by rw [ByteArray.toList_eq, tb]
    have hb : tb b = b.toList := by rw [ByteArray.toList_eq, tb]
    rw [ha, hb, h]
  · rintro rfl
    rw [← string_beq, beq_iff_eq]

/-! ### Numbers -/
theorem decN_numB {n : Nat} (h : n < 18446744073709551616) (r : List UInt8) : decN (numB n ++ r) = some (n, r) := by
  have h8 := nlen_le8 h
  have hc : (u8 (nlen n)).toNat = nlen n := u8_small (by omega)
  have hl := lowB_length n (nlen n)
  have ht : (lowB n (nlen n) ++ r).take (nlen n) = lowB n (nlen n) := List.take_left' hl
  have hd : (lowB n (nlen n) ++ r).drop (nlen n) = r := by rw [List.drop_left' hl]
  have hle : leB (lowB n (nlen n)) = n := by
    rw [leB_lowB, Nat.mod_eq_of_lt ((nlen_le _ _).1 (Nat.le_refl _))]
  simp only [numB, List.cons_append, decN, hc, ht, hd, hle]
  rw [if_neg]
  rintro (h1 | h1 | ⟨h1, h2⟩)
  · omega
  · rw [List.length_append, hl] at h1; omega
  · have : ¬ nlen n ≤ nlen n - 1 := by omega
    rw [nlen_le] at this
    rcases Nat.div_eq_zero_iff.1 h2 with h3 | h3
    · exact absurd h3 (Nat.ne_of_gt (Nat.pow_pos (by decide)))
    · omega

theorem numB_decN {l r : List UInt8} {n : Nat} (h : decN l = some (n, r)) : l = numB n ++ r := by
  cases l with
  | nil => cases h
  | cons c l =>
    simp only [decN] at h
    split at h
    · cases h
    · rename_i hc
      have hc1 : ¬ 8 < c.toNat := fun h => hc (.inl h)
      have hc2 : ¬ l.length < c.toNat := fun h => hc (.inr (.inl h))
      have hc3 : 0 < c.toNat → leB (l.take c.toNat) / 256 ^ (c.toNat - 1) ≠ 0 := fun h h' => hc (.inr (.inr ⟨h, h'⟩))
      cases h
      have hl : (l.take c.toNat).length = c.toNat := by rw [List.length_take]; omega
      have hlt := leB_lt (l.take c.toNat)
      rw [hl] at hlt
      have hn : nlen (leB (l.take c.toNat)) = c.toNat := by
        by_cases h0 : c.toNat = 0
        · rw [h0] at hlt ⊢
          simp only [Nat.pow_zero, List.take_zero] at hlt ⊢
          simp [leB, nlen_zero]
        · obtain ⟨k, hk⟩ : ∃ k, c.toNat = k + 1 := ⟨c.toNat - 1, by omega⟩
          have h3 := hc3 (by omega)
          rw [hk] at hlt h3 ⊢
          refine nlen_eq hlt ?_
          apply Nat.le_of_not_lt
          intro h4
          exact h3 (Nat.div_eq_of_lt (by simpa using h4))
      simp only [numB, hn, u8_back, List.cons_append]
      have hlow : lowB (leB (l.take c.toNat)) c.toNat = l.take c.toNat := by
        have := lowB_leB (l.take c.toNat)
        rw [hl] at this; exact this
      rw [hlow, List.take_append_drop]

theorem decN_more {l r : List UInt8} {n : Nat} (h : decN l = some (n, r)) (e : List UInt8) : decN (l ++ e) = some (n, r ++ e) := by
  have hlt := decN_lt h
  rw [numB_decN h, List.append_assoc, decN_numB hlt]

/-! ### Fields -/
theorem decF_encF {f : Fld} (hm : may f = true) (ho : f.ok = true) (r : List UInt8) : decF (encF f ++ r) = some (f, r) := by
  rw [Fld.ok_iff] at ho
  have hm' := hm
  rcases may_kind hm with hk | hk | hk
  · obtain ⟨k, n, t, x⟩ := f
    simp only at hk ho
    subst hk
    simp only [may, beq_self_eq_true, Bool.true_and, Bool.or_eq_true, Bool.and_eq_true, beq_iff_eq] at hm
    have hm2 : (t == ⟨#[]⟩) = true ∧ x = 0 := by
      rcases hm with h | h
      · exact h
      · rcases h with ⟨h, _⟩ | ⟨h, _⟩ <;> cases h
    obtain ⟨ht, rfl⟩ := hm2
    have ht := (beq_bytes4 _ _).1 ht
    subst ht
    have he : encF ⟨1, n, ⟨#[]⟩, 0⟩ = u8 1 :: numB n := by simp [encF]
    rw [he]
    have h1 : (u8 1).toNat = 1 := rfl
    simp only [decF, List.cons_append, decG, h1, if_true, decN_numB ho.1, Option.map_some, Option.bind_some, hm']
  · obtain ⟨h1, h2, h3⟩ := may_text hm hk
    obtain ⟨k, n, t, x⟩ := f
    simp only at hk h1 h2 h3 ho
    subst hk; subst h1; subst h2
    have he : encF ⟨2, 0, t, 0⟩ = u8 2 :: (numB t.size ++ tb t) := by simp [encF]
    rw [he]
    have h1 : (u8 2).toNat = 2 := rfl
    have hmin : min t.size 8001 = t.size := by omega
    have htk : (tb t ++ r).take t.size = tb t := List.take_left' (tb_length t)
    have hdr : (tb t ++ r).drop t.size = r := List.drop_left' (tb_length t)
    have hlen : ¬ (tb t ++ r).length < t.size := by rw [List.length_append, tb_length]; omega
    simp only [decF, List.cons_append, decG, h1, if_true, List.append_assoc, decN_numB (show t.size < 18446744073709551616 by omega), Option.bind_some, hmin, htk, hdr, hlen, if_false, mk_tb, hm']
    simp [hm']
  · obtain ⟨k, n, t, x⟩ := f
    simp only at hk ho
    subst hk
    have hm2 : n = 0 ∧ (t == ⟨#[]⟩) = true ∧ canon x = x := by
      simp only [may, Bool.or_eq_true, Bool.and_eq_true, beq_iff_eq] at hm
      rcases hm with ⟨h, _⟩ | ⟨h, _⟩ | ⟨_, ⟨h1, h2⟩, h3⟩
      · exact absurd h (by decide)
      · exact absurd h (by decide)
      · exact ⟨h1, h2, h3⟩
    obtain ⟨rfl, ht, hx⟩ := hm2
    have ht := (beq_bytes4 _ _).1 ht
    subst ht
    have he : encF ⟨3, 0, ⟨#[]⟩, x⟩ = u8 3 :: lowB (rcode x) 8 := by simp [encF]
    rw [he]
    have h1 : (u8 3).toNat = 3 := rfl
    have hl := lowB_length (rcode x) 8
    have htk : (lowB (rcode x) 8 ++ r).take 8 = lowB (rcode x) 8 := List.take_left' hl
    have hdr : (lowB (rcode x) 8 ++ r).drop 8 = r := List.drop_left' hl
    have hlen : ¬ (lowB (rcode x) 8 ++ r).length < 8 := by rw [List.length_append, hl]; omega
    have hle : leB (lowB (rcode x) 8) = rcode x := by
      rw [leB_lowB]
      have := rcode_lt ho.2
      omega
    simp only [decF, List.cons_append, decG, h1, htk, hdr, hlen, hle, rdec_rcode ho.2, hx]
    simp [hm']

theorem encF_decF {l r : List UInt8} {f : Fld} (h : decF l = some (f, r)) : l = encF f ++ r ∧ may f = true ∧ f.ok = true := by
  unfold decF at h
  rw [Option.bind_eq_some_iff] at h
  obtain ⟨p, hg, h⟩ := h
  obtain ⟨hm, h⟩ := if_some h
  cases h
  cases l with
  | nil => cases hg
  | cons c l =>
    simp only [decG] at hg
    split at hg
    · rename_i hc
      rw [Option.map_eq_some_iff] at hg
      obtain ⟨⟨n, r'⟩, hn, hg⟩ := hg
      cases hg
      have hlt := decN_lt hn
      refine ⟨?_, hm, by rw [Fld.ok_iff]; exact ⟨hlt, by simp⟩⟩
      rw [numB_decN hn]
      have hcu : c = u8 1 := by rw [← u8_back c, hc]
      simp [encF, hcu]
    · split at hg
      · rename_i hc
        rw [Option.bind_eq_some_iff] at hg
        obtain ⟨⟨n, r'⟩, hn, hg⟩ := hg
        have hlt := decN_lt hn
        simp only at hg
        split at hg
        · cases hg
        · rename_i hlen
          cases hg
          have h3 := (may_text hm rfl).2.2
          simp only [size_mk] at h3
          have hmin : min n 8001 = n := by
            rw [List.length_take] at h3
            omega
          rw [hmin] at hlen hm ⊢
          refine ⟨?_, hm, by rw [Fld.ok_iff]; exact ⟨by simp, by simp⟩⟩
          have hln : (r'.take n).length = n := by rw [List.length_take]; omega
          have hcu : c = u8 2 := by rw [← u8_back c, hc]
          have he : encF ⟨2, 0, ⟨(r'.take n).toArray⟩, 0⟩ = u8 2 :: (numB n ++ r'.take n) := by simp [encF, size_mk, hln, tb_mk]
          rw [he, numB_decN hn, hcu]
          simp
      · split at hg
        · rename_i hc
          split at hg
          · cases hg
          · rename_i hlen
            rw [Option.map_eq_some_iff] at hg
            obtain ⟨x, hx, hg⟩ := hg
            cases hg
            have hl8 : (l.take 8).length = 8 := by rw [List.length_take]; omega
            have hlt : leB (l.take 8) < 18446744073709551616 := by
              have := leB_lt (l.take 8)
              rw [hl8] at this; omega
            obtain ⟨q1, q2, q3⟩ := rdec_some hlt hx
            refine ⟨?_, hm, by rw [Fld.ok_iff]; exact ⟨by simp, q3⟩⟩
            have hcu : c = u8 3 := by rw [← u8_back c, hc]
            have hlow := lowB_leB (l.take 8)
            rw [hl8] at hlow
            have he : encF ⟨3, 0, ⟨#[]⟩, x⟩ = u8 3 :: l.take 8 := by simp [encF, q1, hlow]
            rw [he, hcu]
            simp
        · rename_i h1 h2 h3
          cases hg
          exfalso
          have := may_kind hm
          simp only at this
          omega

theorem decF_more {l r : List UInt8} {f : Fld} (h : decF l = some (f, r)) (e : List UInt8) : decF (l ++ e) = some (f, r ++ e) := by
  obtain ⟨h1, h2, h3⟩ := encF_decF h
  rw [h1, List.append_assoc, decF_encF h2 h3]

theorem decFs_flat : ∀ (l : List Fld) (r : List UInt8), (∀ f ∈ l, may f = true ∧ f.ok = true) → decFs l.length (flatE l ++ r) = some (l, r)
  | [], r, _ => rfl
  | f :: l, r, h => by
    have h1 := h f (by simp)
    have h2 := decFs_flat l r (fun g hg => h g (by simp [hg]))
    simp only [List.length_cons, flatE, List.append_assoc, decFs, decF_encF h1.1 h1.2, Option.bind_some, h2, Option.map_some]

theorem flat_decFs : ∀ (n : Nat) (l r : List UInt8) (fs : List Fld), decFs n l = some (fs, r) → l = flatE fs ++ r ∧ fs.length = n ∧ ∀ f ∈ fs, may f = true ∧ f.ok = true
  | 0, l, r, fs, h => by simp only [decFs, Option.some.injEq, Prod.mk.injEq] at h; obtain ⟨rfl, rfl⟩ := h; exact ⟨rfl, rfl, by simp⟩
  | n + 1, l, r, fs, h => by
    simp only [decFs, Option.bind_eq_some_iff, Option.map_eq_some_iff] at h
    obtain ⟨⟨f, l'⟩, hf, ⟨fs', r'⟩, hfs, h⟩ := h
    cases h
    obtain ⟨h1, h2, h3⟩ := encF_decF hf
    obtain ⟨k1, k2, k3⟩ := flat_decFs n l' r' fs' hfs
    refine ⟨by rw [h1, k1]; simp [flatE], by simp [k2], fun g hg => ?_⟩
    rcases List.mem_cons.1 hg with rfl | hg
    · exact ⟨h2, h3⟩
    · exact k3 g hg

theorem decFs_more {n : Nat} {l r : List UInt8} {fs : List Fld} (h : decFs n l = some (fs, r)) (e : List UInt8) : decFs n (l ++ e) = some (fs, r ++ e) := by
  obtain ⟨h1, h2, h3⟩ := flat_decFs n l r fs h
  rw [h1, List.append_assoc, ← h2, decFs_flat fs _ h3]

/-! ### The whole -/
theorem encE_zero {l : List Fld} (h : encE l = 0) : (∀ f ∈ l, may f = true) ∧ l.length ≤ 200 ∧ (encAll l).length ≤ 8000 ∧ enc l = encAll l := by
  have hh := h
  unfold encE at h
  split at h
  · rename_i hall
    split at h
    · cases h
    · rename_i hno
      exact ⟨List.all_eq_true.1 hall, by omega, by omega, by unfold enc; rw [if_pos hh]⟩
  · cases h

theorem encE_of {l : List Fld} (h1 : ∀ f ∈ l, may f = true) (h2 : l.length ≤ 200) (h3 : (encAll l).length ≤ 8000) : encE l = 0 := by
  unfold encE
  rw [if_pos (List.all_eq_true.2 h1), if_neg (by omega)]

/-- Fields come back. -/
theorem dec_enc {l : List Fld} (h : encE l = 0) (ho : ∀ f ∈ l, f.ok = true) : dec (enc l) = some l := by
  obtain ⟨h1, h2, h3, h4⟩ := encE_zero h
  rw [h4]
  have hc : (u8 l.length).toNat = l.length := u8_small (by omega)
  have hfl := decFs_flat l [] (fun f hf => ⟨h1 f hf, ho f hf⟩)
  rw [List.append_nil] at hfl
  unfold dec
  rw [if_neg (by omega)]
  simp only [encAll, hc, hfl, Option.bind_some]
  rw [if_pos ⟨trivial, h2⟩]

/-- Bytes that have fields are just theirs. -/
theorem enc_dec {b : List UInt8} {l : List Fld} (h : dec b = some l) : encE l = 0 ∧ enc l = b ∧ ∀ f ∈ l, f.ok = true := by
  unfold dec at h
  split at h
  · cases h
  · rename_i hlen
    cases b with
    | nil => cases h
    | cons c b =>
      simp only [Option.bind_eq_some_iff] at h
      obtain ⟨⟨fs, r⟩, hfs, h⟩ := h
      obtain ⟨⟨hr, hc⟩, h⟩ := if_some h
      simp only at hr hc
      subst hr
      cases h
      obtain ⟨h1, h2, h3⟩ := flat_decFs _ _ _ _ hfs
      simp only at h1 h2 h3 ⊢
      rw [List.append_nil] at h1
      have hb : encAll fs = c :: b := by rw [encAll, h2, u8_back, h1]
      have he := encE_of (fun f hf => (h3 f hf).1) (by omega) (by rw [hb]; omega)
      exact ⟨he, by rw [(encE_zero he).2.2.2, hb], fun f hf => (h3 f hf).2⟩

theorem enc_inj {l m : List Fld} (h1 : encE l = 0) (h2 : encE m = 0) (o1 : ∀ f ∈ l, f.ok = true) (o2 : ∀ f ∈ m, f.ok = true) (h : enc l = enc m) : l = m := by
  have e1 := dec_enc h1 o1
  rw [h, dec_enc h2 o2] at e1
  exact (Option.some.inj e1).symm

/-- No beginning. -/
theorem dec_take {l : List Fld} (h : encE l = 0) (ho : ∀ f ∈ l, f.ok = true) {k : Nat} (hk : k < (enc l).length) : dec ((enc l).take k) = none := by
  cases hd : dec ((enc l).take k) with
  | none => rfl
  | some m =>
    exfalso
    obtain ⟨h1, h2, h3⟩ := enc_dec hd
    obtain ⟨a1, a2, a3, a4⟩ := encE_zero h
    obtain ⟨b1, b2, b3, b4⟩ := encE_zero h1
    cases k with
    | zero => rw [b4] at h2; simp [encAll] at h2
    | succ k =>
      rw [a4] at h2 hk
      rw [b4] at h2
      simp only [encAll, List.take_succ_cons, List.cons.injEq] at h2
      have hlm : m.length = l.length := by
        have := congrArg UInt8.toNat h2.1
        rwa [u8_small (by omega), u8_small (by omega)] at this
      have e1 := decFs_flat m ((flatE l).drop k) (fun f hf => ⟨b1 f hf, h3 f hf⟩)
      rw [h2.2, List.take_append_drop, hlm] at e1
      have e2 := decFs_flat l [] (fun f hf => ⟨a1 f hf, ho f hf⟩)
      rw [List.append_nil, e1] at e2
      simp only [Option.some.injEq, Prod.mk.injEq] at e2
      have := congrArg List.length e2.2
      rw [List.length_drop] at this
      simp only [encAll, List.length_cons, List.length_nil] at hk this
      omega

/-- Nothing behind. -/
theorem dec_snoc {l : List Fld} (h : encE l = 0) (ho : ∀ f ∈ l, f.ok = true) (x : UInt8) : dec (enc l ++ [x]) = none := by
  cases hd : dec (enc l ++ [x]) with
  | none => rfl
  | some m =>
    exfalso
    obtain ⟨h1, h2, h3⟩ := enc_dec hd
    have := dec_take h1 h3 (k := (enc l).length) (by rw [h2]; simp)
    rw [h2, List.take_left' rfl, dec_enc h ho] at this
    cases this
end Go.Proofs.YtajpaagbfmjacaaGreatDoor.Am
/-
  THE DOCUMENT'S WAY TO READ FIELDS, plainly: it comes to the same.
-/
namespace Go.Proofs.YtajpaagbfmjacaaGreatDoor.Am
set_option linter.unusedSimpArgs false
set_option linter.unusedVariables false
open Go

/-- A number without its lowest bytes. -/
def dv (m i : Nat) : Nat := m / 256 ^ i
theorem dv_zero (m : Nat) : dv m 0 = m := by simp [dv]
theorem dv_div (m i : Nat) : dv m i / 256 = dv m (i + 1) := by simp only [dv, Nat.div_div_eq_div_mul, Nat.pow_succ]
theorem dv_pos (m i : Nat) : 0 < dv m i ↔ i < nlen m := by
  have h := nlen_le i m
  have hp : 0 < 256 ^ i := Nat.pow_pos (by decide)
  have : 0 < dv m i ↔ 256 ^ i ≤ m := by
    unfold dv
    constructor
    · intro h; exact (Nat.div_pos_iff.1 h).2
    · intro h; exact Nat.div_pos h hp
  omega
theorem dv_lt {m : Nat} (h : m < 18446744073709551616) (i : Nat) : dv m i < 18446744073709551616 := Nat.lt_of_le_of_lt (Nat.div_le_self _ _) h

/-- The number of so many bytes at a place. -/
def valB (b : List UInt8) (at_ size : Nat) : Nat := leB ((b.drop at_).take size)
theorem valB_lt (b : List UInt8) (at_ : Nat) {size : Nat} (h : size ≤ 8) : valB b at_ size < 18446744073709551616 := by
  have h1 := leB_lt ((b.drop at_).take size)
  have h2 : 256 ^ ((b.drop at_).take size).length ≤ 256 ^ 8 := Nat.pow_le_pow_right (by decide) (by rw [List.length_take]; omega)
  have : (256 : Nat) ^ 8 = 18446744073709551616 := by decide
  unfold valB
  omega

/-- The field that begins at a place, and how many bytes it would have. -/
def oneP (b : List UInt8) (at_ : Nat) : Fld × Nat :=
  if leB ((b.drop at_).take 1) = 3 then (⟨3, 0, ⟨#[]⟩, (rdec (valB b (at_ + 1) 8)).getD 0⟩, 9)
  else if leB ((b.drop at_).take 1) = 2 then
    (⟨2, 0, ⟨((b.take (min (at_ + 2 + valB b (at_ + 1) 1 + min (valB b (at_ + 2) (min (valB b (at_ + 1) 1) 8)) 8000) b.length)).drop (at_ + 2 + valB b (at_ + 1) 1)).toArray⟩, 0⟩, 2 + valB b (at_ + 1) 1 + min (valB b (at_ + 2) (min (valB b (at_ + 1) 1) 8)) 8000)
  else (⟨leB ((b.drop at_).take 1), valB b (at_ + 2) (min (valB b (at_ + 1) 1) 8), ⟨#[]⟩, 0⟩, 2 + valB b (at_ + 1) 1)

def refFs : Nat → List UInt8 → Nat → List Fld
  | 0, _, _ => []
  | j + 1, b, at_ => if at_ < b.length then (oneP b at_).1 :: refFs j b (at_ + (oneP b at_).2) else []

def refL (b : List UInt8) : List Fld := refFs (b.headD 0).toNat b 1
def refOk (b : List UInt8) : Bool := decide (0 < b.length ∧ b.length ≤ 8000 ∧ encE (refL b) = 0 ∧ enc (refL b) = b)

theorem oneP_ok (b : List UInt8) (at_ : Nat) : (oneP b at_).1.ok = true := by
  rw [Fld.ok_iff]
  unfold oneP
  split
  · refine ⟨by simp, ?_⟩
    simp only
    cases h : rdec (valB b (at_ + 1) 8) with
    | none => simp
    | some x => exact (rdec_some (valB_lt b _ (by decide)) h).2.2
  · split
    · exact ⟨by simp, by simp⟩
    · exact ⟨valB_lt b _ (Nat.min_le_right _ _), by simp⟩

theorem refFs_ok : ∀ (j : Nat) (b : List UInt8) (at_ : Nat), ∀ f ∈ refFs j b at_, f.ok = true
  | 0, _, _, f, h => by simp [refFs] at h
  | j + 1, b, at_, f, h => by
    simp only [refFs] at h
    split at h
    · rcases List.mem_cons.1 h with rfl | h
      · exact oneP_ok b at_
      · exact refFs_ok j b _ f h
    · simp at h
theorem refFs_len : ∀ (j : Nat) (b : List UInt8) (at_ : Nat), (refFs j b at_).length ≤ j
  | 0, _, _ => by simp [refFs]
  | j + 1, b, at_ => by
    simp only [refFs]
    split
    · have := refFs_len j b (at_ + (oneP b at_).2)
      simp; omega
    · simp
theorem refL_ok (b : List UInt8) : ∀ f ∈ refL b, f.ok = true := refFs_ok _ _ _
theorem refL_len (b : List UInt8) : (refL b).length ≤ 255 := by
  have := refFs_len (b.headD 0).toNat b 1
  have := (b.headD 0).toNat_lt
  unfold refL; omega

theorem drop_more {b : List UInt8} {at_ : Nat} {x r : List UInt8} (h : b.drop at_ = x ++ r) (k : Nat) : b.drop (at_ + k) = (x ++ r).drop k := by rw [← h, List.drop_drop]

theorem oneP_encF {b : List UInt8} {at_ : Nat} {f : Fld} {r : List UInt8} (h : b.drop at_ = encF f ++ r) (hm : may f = true) (ho : f.ok = true) : oneP b at_ = (f, (encF f).length) := by
  rw [Fld.ok_iff] at ho
  have hm' := hm
  have hb : b.length = at_ + (encF f).length + r.length ∨ encF f ++ r = [] := by
    by_cases hl : at_ ≤ b.length
    · left
      have := congrArg List.length h
      rw [List.length_drop, List.length_append] at this
      omega
    · right
      rw [← h, List.drop_eq_nil_iff]; omega
  rcases may_kind hm with hk | hk | hk
  · obtain ⟨k, n, t, x⟩ := f
    simp only at hk ho
    subst hk
    have he : encF ⟨1, n, t, x⟩ = u8 1 :: numB n := by simp [encF]
    have hm2 : (t == ⟨#[]⟩) = true ∧ x = 0 := by
      simp only [may, beq_self_eq_true, Bool.true_and, Bool.or_eq_true, Bool.and_eq_true, beq_iff_eq] at hm
      rcases hm with h | h
      · exact h
      · rcases h with ⟨h, _⟩ | ⟨h, _⟩ <;> cases h
    obtain ⟨ht, rfl⟩ := hm2
    have ht := (beq_bytes4 _ _).1 ht
    subst ht
    rw [he] at h ⊢
    have h8 := nlen_le8 ho.1
    have d0 := drop_more h 0
    have d1 := drop_more h 1
    have d2 := drop_more h 2
    simp only [numB, List.cons_append, List.drop_zero, Nat.add_zero, List.drop_succ_cons] at d0 d1 d2
    have c1 : (u8 1).toNat = 1 := rfl
    have cn : (u8 (nlen n)).toNat = nlen n := u8_small (by omega)
    have v1 : valB b (at_ + 1) 1 = nlen n := by simp [valB, d1, leB, cn]
    have hmin : min (nlen n) 8 = nlen n := by omega
    have v2 : valB b (at_ + 2) (nlen n) = n := by
      unfold valB
      rw [d2, List.take_left' (lowB_length n (nlen n)), leB_lowB, Nat.mod_eq_of_lt ((nlen_le _ _).1 (Nat.le_refl _))]
    unfold oneP
    rw [d0, v1, hmin, v2]
    simp [leB, c1, numB_length]; omega
  · obtain ⟨h1, h2, h3⟩ := may_text hm hk
    obtain ⟨k, n, t, x⟩ := f
    simp only at hk h1 h2 h3 ho
    subst hk; subst h1; subst h2
    have he : encF ⟨2, 0, t, 0⟩ = u8 2 :: (numB t.size ++ tb t) := by simp [encF]
    rw [he] at h hb ⊢
    have h8 := nlen_le8 (n := t.size) (by omega)
    have hlen : b.length = at_ + (2 + nlen t.size + t.size) + r.length := by
      rcases hb with hb | hb
      · rw [hb]; simp [numB_length]; omega
      · simp at hb
    have d0 := drop_more h 0
    have d1 := drop_more h 1
    have d2 := drop_more h 2
    have d3 := drop_more h (2 + nlen t.size)
    simp only [numB, List.cons_append, List.append_assoc, List.drop_zero, Nat.add_zero, List.drop_succ_cons] at d0 d1 d2
    have d3' : b.drop (at_ + 2 + nlen t.size) = tb t ++ r := by
      rw [Nat.add_assoc, d3, show 2 + nlen t.size = nlen t.size + 1 + 1 by omega]
      simp only [numB, List.cons_append, List.append_assoc, List.drop_succ_cons]
      exact List.drop_left' (lowB_length _ _)
    have c2 : (u8 2).toNat = 2 := rfl
    have cn : (u8 (nlen t.size)).toNat = nlen t.size := u8_small (by omega)
    have v1 : valB b (at_ + 1) 1 = nlen t.size := by simp [valB, d1, leB, cn]
    have hmin : min (nlen t.size) 8 = nlen t.size := by omega
    have v2 : valB b (at_ + 2) (nlen t.size) = t.size := by
      unfold valB
      rw [d2, List.take_left' (lowB_length _ _), leB_lowB, Nat.mod_eq_of_lt ((nlen_le _ _).1 (Nat.le_refl _))]
    have hmin2 : min t.size 8000 = t.size := by omega
    have hmin3 : min (at_ + 2 + nlen t.size + t.size) b.length = at_ + 2 + nlen t.size + t.size := by omega
    have htx : (b.take (at_ + 2 + nlen t.size + t.size)).drop (at_ + 2 + nlen t.size) = tb t := by
      rw [List.drop_take, d3', show at_ + 2 + nlen t.size + t.size - (at_ + 2 + nlen t.size) = t.size by omega]
      exact List.take_left' (tb_length t)
    unfold oneP
    rw [d0, v1, hmin, v2, hmin2, hmin3, htx, mk_tb]
    simp [leB, c2, numB_length]; omega
  · obtain ⟨k, n, t, x⟩ := f
    simp only at hk ho
    subst hk
    have hm2 : n = 0 ∧ (t == ⟨#[]⟩) = true ∧ canon x = x := by
      simp only [may, Bool.or_eq_true, Bool.and_eq_true, beq_iff_eq] at hm
      rcases hm with ⟨h, _⟩ | ⟨h, _⟩ | ⟨_, ⟨h1, h2⟩, h3⟩
      · exact absurd h (by decide)
      · exact absurd h (by decide)
      · exact ⟨h1, h2, h3⟩
    obtain ⟨rfl, ht, hx⟩ := hm2
    have ht := (beq_bytes4 _ _).1 ht
    subst ht
    have he : encF ⟨3, 0, ⟨#[]⟩, x⟩ = u8 3 :: lowB (rcode x) 8 := by simp [encF]
    rw [he] at h ⊢
    have d0 := drop_more h 0
    have d1 := drop_more h 1
    simp only [List.cons_append, List.drop_zero, Nat.add_zero, List.drop_succ_cons] at d0 d1
    have c3 : (u8 3).toNat = 3 := rfl
    have v1 : valB b (at_ + 1) 8 = rcode x := by
      unfold valB
      rw [d1, List.take_left' (lowB_length _ 8), leB_lowB]
      have := rcode_lt ho.2
      omega
    unfold oneP
    rw [d0, v1, rdec_rcode ho.2, hx]
    simp [leB, c3, lowB_length]

theorem encF_pos (f : Fld) : 0 < (encF f).length := by unfold encF; split <;> (try split) <;> simp

theorem refFs_flat : ∀ (fs : List Fld) (b : List UInt8) (at_ : Nat), (∀ f ∈ fs, may f = true ∧ f.ok = true) → b.drop at_ = flatE fs → refFs fs.length b at_ = fs
  | [], _, _, _, _ => rfl
  | f :: fs, b, at_, h, hd => by
    have h1 := h f (by simp)
    have hone := oneP_encF (r := flatE fs) hd h1.1 h1.2
    have hlt : at_ < b.length := by
      have := congrArg List.length hd
      have := encF_pos f
      rw [List.length_drop] at *
      simp only [flatE, List.length_append] at *
      omega
    simp only [List.length_cons, refFs, hlt, if_true, hone]
    congr 1
    refine refFs_flat fs b _ (fun g hg => h g (by simp [hg])) ?_
    have := drop_more (r := flatE fs) hd (encF f).length
    rw [this, List.drop_left' rfl]

/-- Both ways come to the same. -/
theorem ref_dec (b : List UInt8) : (dec b).isSome = refOk b ∧ (refOk b = true → (dec b).getD [] = refL b) := by
  cases hd : dec b with
  | some fs =>
    obtain ⟨h1, h2, h3⟩ := enc_dec hd
    obtain ⟨a1, a2, a3, a4⟩ := encE_zero h1
    have hb : b = u8 fs.length :: flatE fs := by rw [← h2, a4]; rfl
    have hL : refL b = fs := by
      have hc : (b.headD 0).toNat = fs.length := by rw [hb]; exact u8_small (by omega)
      unfold refL
      rw [hc]
      exact refFs_flat fs b 1 (fun f hf => ⟨a1 f hf, h3 f hf⟩) (by rw [hb]; rfl)
    have hok : refOk b = true := by
      unfold refOk
      rw [decide_eq_true_eq, hL]
      refine ⟨by rw [hb]; simp, ?_, h1, h2⟩
      rw [← h2, a4]; exact a3
    exact ⟨by rw [hok]; rfl, fun _ => by rw [hL]; rfl⟩
  | none =>
    have hno : refOk b = false := by
      unfold refOk
      rw [decide_eq_false_iff_not]
      rintro ⟨h1, h2, h3, h4⟩
      have := dec_enc h3 (refL_ok b)
      rw [h4, hd] at this
      cases this
    exact ⟨by rw [hno]; rfl, fun h => by rw [hno] at h; cases h⟩
end Go.Proofs.YtajpaagbfmjacaaGreatDoor.Am
