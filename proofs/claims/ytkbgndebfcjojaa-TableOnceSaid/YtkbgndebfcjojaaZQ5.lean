/-
  SETS OF MEMBERS, plainly: no program in sight.
-/
import Derived.Test.YtkbgndebfcjojaaZQ3
import Derived.Test.YtkbgndebfcjojaaZQ4
import Derived.Lib.Overlaps
namespace Go.Proofs.Ytkbgndebfcjojaa.Am
set_option linter.unusedSimpArgs false
set_option linter.unusedVariables false
open Go

/-- A member's bit. -/
def bitS (i : Nat) : Nat := if i < 16 then 2 ^ i else 0
def hasS (m i : Nat) : Bool := m.testBit i
def withS (m i : Nat) : Nat := m ||| bitS i
def withoutS (m i : Nat) : Nat := (BitVec.ofNat 16 m &&& ~~~(BitVec.ofNat 16 (bitS i))).toNat
def listS (m : Nat) : List Nat := (List.range 16).filter fun i => hasS m i
def sizeS (m : Nat) : Nat := (listS m).length

theorem bitS_lt (i : Nat) : bitS i < 65536 := by
  unfold bitS
  split
  · rename_i h
    exact Nat.lt_of_le_of_lt (Nat.pow_le_pow_right (by decide) (show i ≤ 15 by omega)) (by decide)
  · decide
theorem has_lt {m i : Nat} (hm : m < 65536) (h : hasS m i = true) : i < 16 := by
  apply Nat.lt_of_not_le
  intro hi
  have : m < 2 ^ i := Nat.lt_of_lt_of_le hm (by rw [show 65536 = 2 ^ 16 from rfl]; exact Nat.pow_le_pow_right (by decide) hi)
  rw [hasS, Nat.testBit_lt_two_pow this] at h
  cases h
theorem has_ge {m i : Nat} (hm : m < 65536) (h : 16 ≤ i) : hasS m i = false := by
  rw [← Bool.not_eq_true]; intro hh; have := has_lt hm hh; omega
theorem withS_lt {m : Nat} (hm : m < 65536) (i : Nat) : withS m i < 65536 := by
  unfold withS
  exact Nat.or_lt_two_pow (n := 16) hm (bitS_lt i)
theorem has_le {m i : Nat} (h : hasS m i = true) : 2 ^ i ≤ m := by
  apply Nat.le_of_not_lt
  intro hlt
  rw [hasS, Nat.testBit_lt_two_pow hlt] at h
  cases h
theorem withoutS_lt (m i : Nat) : withoutS m i < 65536 := (BitVec.ofNat 16 m &&& ~~~(BitVec.ofNat 16 (bitS i))).isLt
theorem bit_has (i j : Nat) : (bitS i).testBit j = (decide (i = j) && decide (i < 16)) := by
  unfold bitS
  split
  · rename_i h; simp [Nat.testBit_two_pow, h]
  · rename_i h; simp [h]
theorem has_with {m : Nat} (i j : Nat) : hasS (withS m i) j = (hasS m j || (decide (i = j) && decide (i < 16))) := by
  unfold hasS withS
  rw [Nat.testBit_or, bit_has]
theorem and_pow (m i : Nat) : (m &&& 2 ^ i != 0) = m.testBit i := by
  rw [Bool.eq_iff_iff]
  simp only [bne_iff_ne]
  constructor
  · intro h
    apply Classical.byContradiction
    intro hb
    apply h
    apply Nat.eq_of_testBit_eq
    intro j
    rw [Nat.testBit_and, Nat.testBit_two_pow, Nat.zero_testBit]
    by_cases hij : i = j
    · subst hij; simp at hb; simp [hb]
    · simp [hij]
  · intro h h0
    have := congrArg (fun x => x.testBit i) h0
    simp [Nat.testBit_and, h] at this
theorem has_and_bit {m : Nat} (hm : m < 65536) (i : Nat) : (m &&& bitS i != 0) = hasS m i := by
  unfold bitS
  split
  · rw [and_pow]; rfl
  · rename_i h
    rw [Nat.and_zero, has_ge hm (i := i) (by omega)]; rfl
theorem has_div {m i : Nat} : (m / 2 ^ i % 2 == 1) = hasS m i := by
  unfold hasS
  rw [Nat.testBit_eq_decide_div_mod_eq]
  rfl
theorem has_zero (i : Nat) : hasS 0 i = false := by simp [hasS]

/-- m without bit i has all other bits. -/
theorem has_without {m : Nat} (hm : m < 65536) (i j : Nat) : hasS (withoutS m i) j = (hasS m j && !decide (i = j)) := by
  unfold withoutS hasS
  rw [BitVec.testBit_toNat, BitVec.getLsbD_and, BitVec.getLsbD_not, BitVec.getLsbD_ofNat, BitVec.getLsbD_ofNat, bit_has]
  by_cases hj : j < 16
  · by_cases hij : i = j
    · subst hij; simp [hj]
    · simp [hj, hij]
  · have := has_ge hm (i := j) (by omega)
    unfold hasS at this
    simp [this]
theorem pow_bv {i : Nat} (hi : i < 16) : BitVec.ofNat 16 (bitS i) = BitVec.twoPow 16 i := by
  apply BitVec.eq_of_getLsbD_eq
  intro j hj
  rw [BitVec.getLsbD_ofNat, bit_has, BitVec.getLsbD_twoPow]
  simp [hj, hi, Bool.and_comm]
theorem bv_sub (x : BitVec 16) (i : Nat) (hi : i < 16) (h : x.getLsbD i = true) : (x &&& ~~~(BitVec.twoPow 16 i)) + BitVec.twoPow 16 i = x := by
  rw [BitVec.add_eq_or_of_and_eq_zero]
  · apply BitVec.eq_of_getLsbD_eq
    intro j hj
    simp only [BitVec.getLsbD_or, BitVec.getLsbD_and, BitVec.getLsbD_not, BitVec.getLsbD_twoPow, hj, decide_true, Bool.true_and]
    by_cases hij : i = j
    · subst hij; simp [h, hi]
    · simp [hij]
  · apply BitVec.eq_of_getLsbD_eq
    intro j hj
    simp [BitVec.getLsbD_twoPow]
    intro h1 h2 h3 h4
    rcases h3 with h3 | h3
    · omega
    · exact h3
theorem without_sub {m i : Nat} (hm : m < 65536) (hi : i < 16) (h : hasS m i = true) : withoutS m i = m - 2 ^ i := by
  have hx : (BitVec.ofNat 16 m).getLsbD i = true := by rw [BitVec.getLsbD_ofNat]; simp [hi]; exact h
  have e := congrArg BitVec.toNat (bv_sub (BitVec.ofNat 16 m) i hi hx)
  have hp : 2 ^ i < 65536 := by have := bitS_lt i; rwa [bitS, if_pos hi] at this
  have hle := has_le h
  rw [← pow_bv hi, BitVec.toNat_add, BitVec.toNat_ofNat, BitVec.toNat_ofNat] at e
  have e2 : bitS i = 2 ^ i := by rw [bitS, if_pos hi]
  have hlt := withoutS_lt m i
  unfold withoutS at hlt ⊢
  rw [e2] at e hlt ⊢
  generalize (BitVec.ofNat 16 m &&& ~~~BitVec.ofNat 16 (2 ^ i)).toNat = k at e hlt ⊢
  generalize 2 ^ i = p at e hp hle ⊢
  omega
theorem without_no {m i : Nat} (hm : m < 65536) (h : hasS m i = false) : withoutS m i = m := by
  apply Nat.eq_of_testBit_eq
  intro j
  have := has_without hm i j
  unfold hasS at this h
  rw [this]
  by_cases hij : i = j
  · subst hij; simp [h]
  · simp [hij]
theorem with_add {m i : Nat} (hm : m < 65536) (hi : i < 16) (h : hasS m i = false) : withS m i = m + 2 ^ i := by
  have e2 : bitS i = 2 ^ i := by rw [bitS, if_pos hi]
  have hw := withS_lt hm i
  have h1 : hasS (withS m i) i = true := by rw [has_with]; simp [hi]
  have h2 := without_sub hw hi h1
  have h3 : withoutS (withS m i) i = m := by
    apply Nat.eq_of_testBit_eq
    intro j
    have := has_without hw i j
    rw [has_with] at this
    unfold hasS at this h
    rw [this]
    by_cases hij : i = j
    · subst hij; simp [h]
    · simp [hij]
  have := has_le h1
  omega
theorem with_same {m i : Nat} (h : hasS m i = true) : withS m i = m := by
  apply Nat.eq_of_testBit_eq
  intro j
  have := has_with (m := m) i j
  unfold hasS at this h
  rw [this]
  by_cases hij : i = j
  · subst hij; simp [h]
  · simp [hij]
theorem with_big {m i : Nat} (h : 16 ≤ i) : withS m i = m := by unfold withS bitS; rw [if_neg (by omega), Nat.or_zero]
theorem set_ext {a b : Nat} (ha : a < 65536) (hb : b < 65536) (h : ∀ i, i < 16 → hasS a i = hasS b i) : a = b := by
  apply Nat.eq_of_testBit_eq
  intro j
  by_cases hj : j < 16
  · exact h j hj
  · have h1 := has_ge ha (i := j) (by omega)
    have h2 := has_ge hb (i := j) (by omega)
    unfold hasS at h1 h2
    rw [h1, h2]

/-! ### How many -/
def cntTo (m : Nat) : Nat → Nat
  | 0 => 0
  | k + 1 => cntTo m k + (if hasS m k then 1 else 0)
theorem cnt_list (m : Nat) : ∀ k, ((List.range k).filter fun i => hasS m i).length = cntTo m k
  | 0 => rfl
  | k + 1 => by
    rw [List.range_succ, List.filter_append, List.length_append, cnt_list m k, cntTo]
    cases h : hasS m k <;> simp [h]
theorem size_cnt (m : Nat) : sizeS m = cntTo m 16 := cnt_list m 16
theorem cnt_le (m : Nat) : ∀ k, cntTo m k ≤ k
  | 0 => Nat.le_refl _
  | k + 1 => by have := cnt_le m k; rw [cntTo]; split <;> omega
theorem size_le (m : Nat) : sizeS m ≤ 16 := by rw [size_cnt]; exact cnt_le m 16
theorem cnt_congr {a b : Nat} : ∀ k, (∀ i, i < k → hasS a i = hasS b i) → cntTo a k = cntTo b k
  | 0, _ => rfl
  | k + 1, h => by rw [cntTo, cntTo, cnt_congr k (fun i hi => h i (by omega)), h k (by omega)]
theorem mem_list {m i : Nat} (hm : m < 65536) : i ∈ listS m ↔ hasS m i = true := by
  unfold listS
  rw [List.mem_filter, List.mem_range]
  exact ⟨fun h => h.2, fun h => ⟨has_lt hm h, h⟩⟩

/-! ### Numbers of members -/
def heldS (n : Int) : Int := if (if 16 < n then 16 else n) < 1 then 1 else (if 16 < n then 16 else n)
def faultyS (n : Int) : Int := (heldS n - 1) / 3
def echoesS (n : Int) : Int := (heldS n + faultyS n) / 2 + 1
theorem held_range (n : Int) : 1 ≤ heldS n ∧ heldS n ≤ 16 := by unfold heldS; split <;> split <;> omega
theorem faulty_range (n : Int) : 0 ≤ faultyS n ∧ faultyS n ≤ 5 := by have := held_range n; unfold faultyS; omega
theorem echoes_range (n : Int) : 1 ≤ echoesS n ∧ echoesS n ≤ 11 := by have := held_range n; have := faulty_range n; unfold echoesS; omega
theorem held_small {n : Nat} (h1 : 1 ≤ n) (h2 : n ≤ 16) : heldS (n : Int) = n := by unfold heldS; split <;> split <;> omega
end Go.Proofs.Ytkbgndebfcjojaa.Am
/-
  VECTORS AS CELLS: sixteen numbers in a row. No program is named here.
-/
namespace Go.Proofs.Ytkbgndebfcjojaa.Am
set_option linter.unusedSimpArgs false
set_option linter.unusedVariables false
open Go Go.Proofs

def vc (l : List Nat) : List AV := l.map fun (n : Nat) => AV.v (.int .u16 n)
theorem vc_cons (n : Nat) (l : List Nat) : vc (n :: l) = .v (.int .u16 n) :: vc l := rfl
theorem vc_length (l : List Nat) : (vc l).length = l.length := by simp [vc]
theorem vc_drop (l : List Nat) (i : Nat) : (vc l).drop i = vc (l.drop i) := by simp [vc]
theorem vc_take (l : List Nat) (i : Nat) : (vc l).take i = vc (l.take i) := by simp [vc]
theorem vc_append (a b : List Nat) : vc a ++ vc b = vc (a ++ b) := by simp [vc]
theorem vc_get (l : List Nat) (i : Nat) : (vc l)[i]? = l[i]?.map fun (n : Nat) => AV.v (.int .u16 n) := by simp [vc]
theorem vc_one (l : List Nat) : (vc l).all AV.one = true := by simp [vc, AV.one, Value.oneCell']
theorem vc_bare : ∀ l : List Nat, AV.isBareAll (vc l) = true
  | [] => rfl
  | n :: l => by rw [vc_cons]; simp [AV.isBareAll, AV.isBare, vc_bare l]
theorem vc_frz (m : List Blk) : ∀ l : List Nat, AV.frzAll m (vc l) = vc l
  | [] => rfl
  | n :: l => by rw [vc_cons]; simp [AV.frzAll, AV.frz, vc_frz m l]
theorem vc_res (m : List Blk) : ∀ l : List Nat, AV.resAll m (vc l) = vc l
  | [] => rfl
  | n :: l => by rw [vc_cons]; simp [AV.resAll, AV.res, vc_res m l]
theorem vc_mapId (f : Nat → Nat) : ∀ l : List Nat, AV.mapIdAll f (vc l) = vc l
  | [] => rfl
  | n :: l => by rw [vc_cons]; simp [AV.mapIdAll, AV.mapId, vc_mapId f l]
theorem vc_ids : ∀ l : List Nat, AV.idsAll (vc l) = []
  | [] => rfl
  | n :: l => by rw [vc_cons]; simp [AV.idsAll, AV.ids, vc_ids l]
theorem vc_slices : ∀ l : List Nat, AV.slicesAll (vc l) = []
  | [] => rfl
  | n :: l => by rw [vc_cons]; simp [AV.slicesAll, AV.slices, vc_slices l]

theorem frzAll_append (m : List Blk) : ∀ a b : List AV, AV.frzAll m (a ++ b) = AV.frzAll m a ++ AV.frzAll m b
  | [], b => rfl
  | x :: a, b => by simp [AV.frzAll, frzAll_append m a b]
theorem resAll_append (m : List Blk) : ∀ a b : List AV, AV.resAll m (a ++ b) = AV.resAll m a ++ AV.resAll m b
  | [], b => rfl
  | x :: a, b => by simp [AV.resAll, resAll_append m a b]
theorem mapIdAll_append (f : Nat → Nat) : ∀ a b : List AV, AV.mapIdAll f (a ++ b) = AV.mapIdAll f a ++ AV.mapIdAll f b
  | [], b => rfl
  | x :: a, b => by simp [AV.mapIdAll, mapIdAll_append f a b]
theorem idsAll_append : ∀ a b : List AV, AV.idsAll (a ++ b) = AV.idsAll a ++ AV.idsAll b
  | [], b => rfl
  | x :: a, b => by simp [AV.idsAll, idsAll_append a b]
theorem slicesAll_append : ∀ a b : List AV, AV.slicesAll (a ++ b) = AV.slicesAll a ++ AV.slicesAll b
  | [], b => rfl
  | x :: a, b => by simp [AV.slicesAll, slicesAll_append a b]
theorem bareAll_append : ∀ a b : List AV, AV.isBareAll (a ++ b) = (AV.isBareAll a && AV.isBareAll b)
  | [], b => rfl
  | x :: a, b => by simp [AV.isBareAll, bareAll_append a b, Bool.and_assoc]

theorem set_split {α : Type} (x : α) : ∀ (l : List α) (i : Nat), i < l.length → l.set i x = l.take i ++ [x] ++ l.drop (i + 1)
  | [], i, h => by simp at h
  | y :: l, 0, _ => by simp
  | y :: l, i + 1, h => by simp only [List.length_cons] at h; simp [set_split x l i (by omega)]

theorem take_drop_one {α : Type} {l : List α} {i : Nat} {x : α} (h : l[i]? = some x) : (l.drop i).take 1 = [x] := by
  rw [List.take_one, List.head?_drop, h]; rfl

/-- One cell of a vector, written. -/
theorem vc_splice (v : List Nat) (i x : Nat) (h : i < v.length) : splice (vc v) i [.v (.int .u16 x)] = vc (v.set i x) := by
  have e : vc [x] = [.v (.int .u16 x)] := rfl
  simp only [splice, List.length_singleton, vc_take, vc_drop, ← e, vc_append, vc_length, set_split x v i h]

/-! ### A number, a vector, a text -/
def bc (k : Int) (v : List Nat) (t : ByteArray) : List AV := .v (.int .i64 k) :: (vc v ++ [.v (.string t)])
section
variable {k : Int} {v w : List Nat} {t : ByteArray}
theorem bc_length (h : v.length = 16) : (bc k v t).length = 18 := by simp [bc, vc_length, h]
theorem bc_one : (bc k v t).all AV.one = true := by simp [bc, vc_one, AV.one, Value.oneCell']
theorem bc_bare : AV.isBareAll (bc k v t) = true := by simp [bc, AV.isBareAll, AV.isBare, bareAll_append, vc_bare]
theorem bc_frz (m : List Blk) : AV.frzAll m (bc k v t) = bc k v t := by simp [bc, AV.frzAll, AV.frz, frzAll_append, vc_frz]
theorem bc_res (m : List Blk) : AV.resAll m (bc k v t) = bc k v t := by simp [bc, AV.resAll, AV.res, resAll_append, vc_res]
theorem bc_mapId (f : Nat → Nat) : AV.mapIdAll f (bc k v t) = bc k v t := by simp [bc, AV.mapIdAll, AV.mapId, mapIdAll_append, vc_mapId]
theorem bc_ids : AV.idsAll (bc k v t) = [] := by simp [bc, AV.idsAll, AV.ids, idsAll_append, vc_ids]
theorem bc_slices : AV.slicesAll (bc k v t) = [] := by simp [bc, AV.slicesAll, AV.slices, slicesAll_append, vc_slices]
theorem bc_take1 : (bc k v t).take 1 = [.v (.int .i64 k)] := by simp [bc]
theorem bc_past (h : v.length = 16) : ((bc k v t).drop 1).take 16 = vc v := by
  simp only [bc, List.drop_succ_cons, List.drop_zero]
  rw [List.take_append_of_le_length (by simp [vc_length, h]), List.take_of_length_le (by simp [vc_length, h])]
theorem bc_text (h : v.length = 16) : ((bc k v t).drop 17).take 1 = [.v (.string t)] := by
  simp only [bc, List.drop_succ_cons]
  rw [List.drop_append_of_le_length (by simp [vc_length, h]), List.drop_of_length_le (by simp [vc_length, h])]
  rfl
theorem bc_at {i x : Nat} (hi : v[i]? = some x) : ((bc k v t).drop (1 + i)).take 1 = [.v (.int .u16 x)] := by
  have hl : i < v.length := (List.getElem?_eq_some_iff.1 hi).1
  refine take_drop_one ?_
  rw [Nat.add_comm]
  simp only [bc, List.getElem?_cons_succ]
  rw [List.getElem?_append_left (by rw [vc_length]; exact hl), vc_get, hi]
  rfl
theorem bc_put (i x : Nat) (h : i < v.length) : splice (bc k v t) (1 + i) [.v (.int .u16 x)] = bc k (v.set i x) t := by
  have e := vc_splice v i x h
  simp only [splice, List.length_singleton] at e ⊢
  rw [Nat.add_comm 1 i]
  simp only [bc, List.take_succ_cons, List.drop_succ_cons]
  rw [List.take_append_of_le_length (by rw [vc_length]; omega), List.drop_append_of_le_length (by rw [vc_length]; omega), ← e]
  simp
theorem bc_putv (h : v.length = 16) (h' : w.length = 16) : splice (bc k v t) 1 (vc w) = bc k w t := by
  simp only [splice, vc_length, h', bc, List.take_succ_cons, List.take_zero, List.drop_succ_cons]
  rw [List.drop_append_of_le_length (by simp [vc_length, h]), List.drop_of_length_le (by simp [vc_length, h])]
  simp
theorem bc_putk (k' : Int) : splice (bc k v t) 0 [.v (.int .i64 k')] = bc k' v t := by simp [splice, bc]
theorem bc_putt (h : v.length = 16) (t' : ByteArray) : splice (bc k v t) 17 [.v (.string t')] = bc k v t' := by
  simp only [splice, bc, List.take_succ_cons, List.drop_succ_cons, List.length_singleton]
  rw [List.take_append_of_le_length (by simp [vc_length, h]), List.take_of_length_le (by simp [vc_length, h])]
  rw [List.drop_of_length_le (by simp [vc_length, h])]
  simp
end

/-! ### Are they the same? -/
def eqV : List Nat → List Nat → Bool
  | a :: l, b :: m => ((a : Int) == (b : Int)) && eqV l m
  | _, _ => true
theorem eqV_iff : ∀ {l m : List Nat}, l.length = m.length → (eqV l m = true ↔ l = m)
  | [], [], _ => by simp [eqV]
  | a :: l, b :: m, h => by
    simp only [List.length_cons] at h
    simp only [eqV, Bool.and_eq_true, beq_iff_eq, List.cons.injEq, Int.natCast_inj, eqV_iff (l := l) (m := m) (by omega)]
  | [], _ :: _, h => by simp at h
  | _ :: _, [], h => by simp at h
theorem eqV_self (l : List Nat) : eqV l l = true := (eqV_iff rfl).2 rfl
theorem eqCells_vc (ks : List EK) : ∀ (l m : List Nat) (r s : List AV), l.length = m.length → eqCells (List.replicate l.length .i ++ ks) (vc l ++ r) (vc m ++ s) = (eqCells ks r s).map (eqV l m && ·)
  | [], [], r, s, _ => by simp [vc, eqV]
  | a :: l, b :: m, r, s, h => by
    simp only [List.length_cons] at h
    simp only [List.length_cons, List.replicate_succ, List.cons_append, vc_cons, eqCells, eqV, if_true]
    rw [eqCells_vc ks l m r s (by omega)]
    cases eqCells ks r s <;> simp [Bool.and_assoc]
  | [], _ :: _, r, s, h => by simp at h
  | _ :: _, [], r, s, h => by simp at h
theorem eqCells_16 {l m : List Nat} (h1 : l.length = 16) (h2 : m.length = 16) : eqCells [.i, .i, .i, .i, .i, .i, .i, .i, .i, .i, .i, .i, .i, .i, .i, .i] (vc l) (vc m) = some (eqV l m) := by
  have := eqCells_vc [] l m [] [] (by omega)
  rw [h1] at this
  simpa [List.replicate, eqCells] using this
theorem eqCells_18 {k k' : Int} {l m : List Nat} {t t' : ByteArray} (h1 : l.length = 16) (h2 : m.length = 16) :
    eqCells [.i, .i, .i, .i, .i, .i, .i, .i, .i, .i, .i, .i, .i, .i, .i, .i, .i, .s] (bc k l t) (bc k' m t') = some (k == k' && (eqV l m && t == t')) := by
  have := eqCells_vc [.s] l m [.v (.string t)] [.v (.string t')] (by omega)
  rw [h1] at this
  simp only [List.replicate, List.cons_append, List.nil_append] at this
  simp [bc, eqCells, this]

/-! ### As arguments, and as zeros -/
def unVc : List AV → Option (List Nat)
  | [] => some []
  | .v (.int .u16 n) :: r => if 0 ≤ n then (unVc r).map fun l => n.toNat :: l else none
  | _ => none
theorem unVc_vc : ∀ l : List Nat, unVc (vc l) = some l
  | [] => rfl
  | n :: l => by simp [vc_cons, unVc, unVc_vc l]
theorem unVc_some : ∀ {cs : List AV} {l : List Nat}, unVc cs = some l → cs = vc l
  | [], l, h => by simp [unVc] at h; subst h; rfl
  | c :: r, l, h => by
    unfold unVc at h
    split at h
    · rename_i heq; cases heq
    · rename_i n r' heq
      cases heq
      split at h
      · rename_i hn
        obtain ⟨l', hl', rfl⟩ := Option.map_eq_some_iff.1 h
        rw [unVc_some hl', vc_cons, Int.toNat_of_nonneg hn]
      · cases h
    · cases h
def zV : List Nat := List.replicate 16 0
theorem zV_length : zV.length = 16 := by simp [zV]
theorem lit16 : [AV.v (.int .u16 0), AV.v (.int .u16 0), AV.v (.int .u16 0), AV.v (.int .u16 0), AV.v (.int .u16 0), AV.v (.int .u16 0), AV.v (.int .u16 0), AV.v (.int .u16 0), AV.v (.int .u16 0), AV.v (.int .u16 0), AV.v (.int .u16 0), AV.v (.int .u16 0), AV.v (.int .u16 0), AV.v (.int .u16 0), AV.v (.int .u16 0), AV.v (.int .u16 0)] = vc zV := rfl
theorem lit18 (k : Int) (t : ByteArray) : [AV.v (.int .i64 k), AV.v (.int .u16 0), AV.v (.int .u16 0), AV.v (.int .u16 0), AV.v (.int .u16 0), AV.v (.int .u16 0), AV.v (.int .u16 0), AV.v (.int .u16 0), AV.v (.int .u16 0), AV.v (.int .u16 0), AV.v (.int .u16 0), AV.v (.int .u16 0), AV.v (.int .u16 0), AV.v (.int .u16 0), AV.v (.int .u16 0), AV.v (.int .u16 0), AV.v (.int .u16 0), AV.v (.string t)] = bc k zV t := rfl
theorem vc_take16 {v : List Nat} (h : v.length = 16) : (vc v).take 16 = vc v := by rw [List.take_of_length_le (by rw [vc_length]; omega)]
theorem bc_take18 {k : Int} {v : List Nat} {t : ByteArray} (h : v.length = 16) : (bc k v t).take 18 = bc k v t := by rw [List.take_of_length_le (by rw [bc_length h]; omega)]
theorem vc_all {v w : List Nat} (h : v.length = w.length) : splice (vc v) 0 (vc w) = vc w := by
  simp [splice, vc_length, ← h]
theorem bc_all {k k' : Int} {v w : List Nat} {t t' : ByteArray} (h : v.length = 16) (h' : w.length = 16) : splice (bc k v t) 0 (bc k' w t') = bc k' w t' := by
  simp only [splice, List.take_zero, List.nil_append, bc_length h', Nat.zero_add]
  rw [List.drop_of_length_le (by rw [bc_length h]; omega), List.append_nil]
def unB : List AV → Option (Int × List Nat × ByteArray)
  | .v (.int .i64 k) :: r => match r.getLast? with
    | some (.v (.string t)) => (unVc r.dropLast).map fun v => (k, v, t)
    | _ => none
  | _ => none
theorem unB_bc (k : Int) (v : List Nat) (t : ByteArray) : unB (bc k v t) = some (k, v, t) := by
  simp [unB, bc, unVc_vc]
theorem unB_some {cs : List AV} {k : Int} {v : List Nat} {t : ByteArray} (h : unB cs = some (k, v, t)) : cs = bc k v t := by
  unfold unB at h
  split at h
  case h_2 => cases h
  rename_i k' r
  split at h
  case h_2 => cases h
  rename_i t' hl
  obtain ⟨v', hv', h2⟩ := Option.map_eq_some_iff.1 h
  cases h2
  have := unVc_some hv'
  rw [bc, ← this]
  congr 1
  obtain ⟨hne, hlast⟩ := List.getLast?_eq_some_iff.1 hl
  rw [hlast]
  simp
attribute [simp] vc_length vc_drop vc_take vc_append vc_one vc_bare vc_frz vc_res vc_mapId vc_ids vc_slices bc_length bc_one bc_bare bc_frz bc_res bc_mapId bc_ids bc_slices bc_take1 bc_past bc_text unVc_vc unB_bc zV_length vc_take16 bc_take18 eqCells_16 eqCells_18 eqV_self
attribute [simp high] lit16 lit18 vc_splice bc_put bc_putv bc_putk bc_putt vc_all bc_all
theorem vc_single (n : Nat) : vc [n] = [.v (.int .u16 n)] := rfl
attribute [simp] vc_single
theorem splice_eq (cs : List AV) (o : Nat) (new : List AV) : splice cs o new = cs.take o ++ new ++ cs.drop (o + new.length) := rfl
attribute [simp low] splice_eq
theorem l16 {v : List Nat} (h : v.length = 16) : v.take 16 = v := List.take_of_length_le (by omega)
theorem bc_tail {k : Int} {v : List Nat} {t : ByteArray} (h : v.length = 16) : (bc k v t).tail.take 16 = vc v := by rw [← bc_past (k := k) (t := t) h, List.drop_one]
attribute [simp] l16 oneOr resAll res1 bc_tail

/-! ### A member, a vector -/
def mc (k : Int) (v : List Nat) : List AV := .v (.int .u8 k) :: vc v
section
variable {k k' : Int} {v w : List Nat}
theorem mc_length (h : v.length = 16) : (mc k v).length = 17 := by simp [mc, vc_length, h]
theorem mc_one : (mc k v).all AV.one = true := by simp [mc, vc_one, AV.one, Value.oneCell']
theorem mc_bare : AV.isBareAll (mc k v) = true := by simp [mc, AV.isBareAll, AV.isBare, vc_bare]
theorem mc_frz (m : List Blk) : AV.frzAll m (mc k v) = mc k v := by simp [mc, AV.frzAll, AV.frz, vc_frz]
theorem mc_res (m : List Blk) : AV.resAll m (mc k v) = mc k v := by simp [mc, AV.resAll, AV.res, vc_res]
theorem mc_mapId (f : Nat → Nat) : AV.mapIdAll f (mc k v) = mc k v := by simp [mc, AV.mapIdAll, AV.mapId, vc_mapId]
theorem mc_ids : AV.idsAll (mc k v) = [] := by simp [mc, AV.idsAll, AV.ids, vc_ids]
theorem mc_slices : AV.slicesAll (mc k v) = [] := by simp [mc, AV.slicesAll, AV.slices, vc_slices]
theorem mc_take1 : (mc k v).take 1 = [.v (.int .u8 k)] := by simp [mc]
theorem mc_tail (h : v.length = 16) : (mc k v).tail.take 16 = vc v := by
  simp only [mc, List.tail_cons]
  exact List.take_of_length_le (by simp [vc_length, h])
theorem mc_past (h : v.length = 16) : ((mc k v).drop 1).take 16 = vc v := by rw [List.drop_one]; exact mc_tail h
theorem mc_take17 (h : v.length = 16) : (mc k v).take 17 = mc k v := List.take_of_length_le (by rw [mc_length h]; omega)
theorem mc_all (h : v.length = 16) (h' : w.length = 16) : splice (mc k v) 0 (mc k' w) = mc k' w := by
  simp only [splice, List.take_zero, List.nil_append, mc_length h', Nat.zero_add]
  rw [List.drop_of_length_le (by rw [mc_length h]; omega), List.append_nil]
theorem mc_putk (k' : Int) : splice (mc k v) 0 [.v (.int .u8 k')] = mc k' v := by simp [splice, mc]
theorem mc_putv (h : v.length = 16) (h' : w.length = 16) : splice (mc k v) 1 (vc w) = mc k w := by
  simp only [splice, vc_length, h', mc, List.take_succ_cons, List.take_zero, List.drop_succ_cons]
  rw [List.drop_of_length_le (by simp [vc_length, h])]
  simp
theorem mc_at {i x : Nat} (hi : v[i]? = some x) : ((mc k v).drop (1 + i)).take 1 = [.v (.int .u16 x)] := by
  have hl : i < v.length := (List.getElem?_eq_some_iff.1 hi).1
  refine take_drop_one ?_
  rw [Nat.add_comm]
  simp only [mc, List.getElem?_cons_succ]
  rw [vc_get, hi]
  rfl
theorem mc_put (i x : Nat) (h : i < v.length) : splice (mc k v) (1 + i) [.v (.int .u16 x)] = mc k (v.set i x) := by
  have e := vc_splice v i x h
  simp only [splice, List.length_singleton] at e ⊢
  rw [Nat.add_comm 1 i]
  simp only [mc, List.take_succ_cons, List.drop_succ_cons]
  rw [← e]
  simp
theorem lit17 (k : Int) : [AV.v (.int .u8 k), AV.v (.int .u16 0), AV.v (.int .u16 0), AV.v (.int .u16 0), AV.v (.int .u16 0), AV.v (.int .u16 0), AV.v (.int .u16 0), AV.v (.int .u16 0), AV.v (.int .u16 0), AV.v (.int .u16 0), AV.v (.int .u16 0), AV.v (.int .u16 0), AV.v (.int .u16 0), AV.v (.int .u16 0), AV.v (.int .u16 0), AV.v (.int .u16 0), AV.v (.int .u16 0)] = mc k zV := rfl
theorem eqCells_17 (h1 : v.length = 16) (h2 : w.length = 16) : eqCells [.i, .i, .i, .i, .i, .i, .i, .i, .i, .i, .i, .i, .i, .i, .i, .i, .i] (mc k v) (mc k' w) = some (k == k' && eqV v w) := by
  have := eqCells_vc [] v w [] [] (by omega)
  rw [h1] at this
  simp only [List.replicate, List.append_nil] at this
  simp [mc, eqCells, this]
theorem vc_inj : ∀ {v w : List Nat}, vc v = vc w → v = w
  | [], [], _ => rfl
  | [], _ :: _, h => by simp [vc] at h
  | _ :: _, [], h => by simp [vc] at h
  | a :: v, b :: w, h => by
    rw [vc_cons, vc_cons] at h
    simp only [List.cons.injEq, AV.v.injEq, Value.int.injEq, true_and, Int.natCast_inj] at h
    rw [h.1, vc_inj h.2]
theorem mc_inj (h : mc k v = mc k' w) : k = k' ∧ v = w := by
  simp only [mc, List.cons.injEq, AV.v.injEq, Value.int.injEq, true_and] at h
  exact ⟨h.1, vc_inj h.2⟩
end
theorem vc_splice_lit (v : List Nat) (i n : Nat) (h : i < v.length) : splice (vc v) i [.v (.int .u16 (no_index (OfNat.ofNat n) : Int))] = vc (v.set i n) := vc_splice v i n h
theorem bc_put_lit {k : Int} {v : List Nat} {t : ByteArray} (i n : Nat) (h : i < v.length) : splice (bc k v t) (1 + i) [.v (.int .u16 (no_index (OfNat.ofNat n) : Int))] = bc k (v.set i n) t := bc_put i n h
attribute [simp] mc_length mc_one mc_bare mc_frz mc_res mc_mapId mc_ids mc_slices mc_take1 mc_tail mc_past mc_take17 eqCells_17
attribute [simp high] lit17 mc_all mc_putk mc_putv mc_put vc_splice_lit bc_put_lit
theorem vc_flat : ∀ l : List Nat, AV.flatAll (vc l) = true
  | [] => rfl
  | n :: l => by rw [vc_cons]; simp [AV.flatAll, AV.flat, vc_flat l]
theorem vc_lend (m : List Blk) : ∀ l : List Nat, AV.lendAll m (vc l) = vc l
  | [] => rfl
  | n :: l => by rw [vc_cons]; simp [AV.lendAll, AV.lend, vc_lend m l]
theorem mc_flat (k : Int) (v : List Nat) : AV.flatAll (mc k v) = true := by simp [mc, AV.flatAll, AV.flat, vc_flat]
theorem mc_lend (m : List Blk) (k : Int) (v : List Nat) : AV.lendAll m (mc k v) = mc k v := by simp [mc, AV.lendAll, AV.lend, vc_lend]
theorem bc_flat (k : Int) (v : List Nat) (t : ByteArray) : AV.flatAll (bc k v t) = true := by
  have h : ∀ l : List Nat, AV.flatAll (vc l ++ [AV.v (.string t)]) = true := fun l => by
    induction l with
    | nil => rfl
    | cons n l ih => rw [vc_cons]; simp [AV.flatAll, AV.flat, ih]
  simp [bc, AV.flatAll, AV.flat, h]
theorem bc_lend (m : List Blk) (k : Int) (v : List Nat) (t : ByteArray) : AV.lendAll m (bc k v t) = bc k v t := by
  have h : ∀ l : List Nat, AV.lendAll m (vc l ++ [AV.v (.string t)]) = vc l ++ [AV.v (.string t)] := fun l => by
    induction l with
    | nil => rfl
    | cons n l ih => rw [vc_cons]; simp [AV.lendAll, AV.lend, ih]
  simp [bc, AV.lendAll, AV.lend, h]
attribute [simp] vc_flat vc_lend mc_flat mc_lend bc_flat bc_lend
end Go.Proofs.Ytkbgndebfcjojaa.Am
/-
  VECTORS, plainly: no program in sight.
-/
namespace Go.Proofs.Ytkbgndebfcjojaa.Am
set_option linter.unusedSimpArgs false
set_option linter.unusedVariables false
open Go

/-! ### Vectors -/
def okV (v : List Nat) : Prop := v.length = 16 ∧ ∀ n ∈ v, n < 65536
theorem okV_at {v : List Nat} {i x : Nat} (h : okV v) (hi : v[i]? = some x) : x < 65536 := h.2 x (List.mem_of_getElem? hi)
def joinV : List Nat → List Nat → List Nat
  | a :: l, b :: m => max a b :: joinV l m
  | _, _ => []
def belowV : List Nat → List Nat → Bool
  | a :: l, b :: m => decide (a ≤ b) && belowV l m
  | _, _ => true
theorem joinV_length : ∀ {a b : List Nat}, a.length = b.length → (joinV a b).length = a.length
  | [], [], _ => rfl
  | x :: a, y :: b, h => by simp only [List.length_cons] at h; simp [joinV, joinV_length (a := a) (b := b) (by omega)]
  | [], _ :: _, h => by simp at h
  | _ :: _, [], h => by simp at h
theorem joinV_get : ∀ {a b : List Nat} {i x y : Nat}, a[i]? = some x → b[i]? = some y → (joinV a b)[i]? = some (max x y)
  | x :: a, y :: b, 0, _, _, h1, h2 => by simp at h1 h2; simp [joinV, h1, h2]
  | _ :: a, _ :: b, i + 1, _, _, h1, h2 => by simp at h1 h2; simp [joinV, joinV_get h1 h2]
theorem joinV_lt : ∀ {a b : List Nat}, (∀ n ∈ a, n < 65536) → (∀ n ∈ b, n < 65536) → ∀ n ∈ joinV a b, n < 65536
  | [], b, _, _, n, hn => by cases b <;> simp [joinV] at hn
  | _ :: _, [], _, _, n, hn => by simp [joinV] at hn
  | x :: a, y :: b, h1, h2, n, hn => by
    simp only [joinV, List.mem_cons] at hn
    rcases hn with rfl | hn
    · have := h1 x (by simp); have := h2 y (by simp); omega
    · exact joinV_lt (fun n hn => h1 n (by simp [hn])) (fun n hn => h2 n (by simp [hn])) n hn
theorem okV_join {a b : List Nat} (ha : okV a) (hb : okV b) : okV (joinV a b) := ⟨by rw [joinV_length (by rw [ha.1, hb.1]), ha.1], joinV_lt ha.2 hb.2⟩
theorem belowV_no : ∀ {a b : List Nat} {i x y : Nat}, a[i]? = some x → b[i]? = some y → y < x → belowV a b = false
  | x :: a, y :: b, 0, _, _, h1, h2, h => by
    simp at h1 h2; subst h1; subst h2
    simp only [belowV, decide_eq_false (show ¬ x ≤ y by omega), Bool.false_and]
  | _ :: a, _ :: b, i + 1, _, _, h1, h2, h => by simp at h1 h2; simp [belowV, belowV_no h1 h2 h]
theorem belowV_yes : ∀ {a b : List Nat}, (∀ (i x y : Nat), a[i]? = some x → b[i]? = some y → x ≤ y) → belowV a b = true
  | [], _, _ => rfl
  | _ :: _, [], _ => rfl
  | x :: a, y :: b, h => by
    simp only [belowV, Bool.and_eq_true, decide_eq_true_eq]
    exact ⟨h 0 x y rfl rfl, belowV_yes fun i x y h1 h2 => h (i + 1) x y h1 h2⟩
theorem below_join : ∀ {a b : List Nat}, a.length = b.length → eqV (joinV a b) b = belowV a b
  | [], [], _ => rfl
  | x :: a, y :: b, h => by
    simp only [List.length_cons] at h
    have := below_join (a := a) (b := b) (by omega)
    simp only [joinV, eqV, belowV, this]
    congr 1
    rw [Bool.eq_iff_iff]; simp; omega
  | [], _ :: _, h => by simp at h
  | _ :: _, [], h => by simp at h
theorem belowV_iff : ∀ {a b : List Nat}, a.length = b.length → (belowV a b = true ↔ joinV a b = b)
  | [], [], _ => by simp [belowV, joinV]
  | x :: a, y :: b, h => by
    simp only [List.length_cons] at h
    have := belowV_iff (a := a) (b := b) (by omega)
    simp only [belowV, joinV, Bool.and_eq_true, decide_eq_true_eq, this, List.cons.injEq]
    constructor
    · rintro ⟨h1, h2⟩; exact ⟨by omega, h2⟩
    · rintro ⟨h1, h2⟩; exact ⟨by omega, h2⟩
  | [], _ :: _, h => by simp at h
  | _ :: _, [], h => by simp at h
theorem joinV_comm : ∀ (a b : List Nat), joinV a b = joinV b a
  | [], b => by cases b <;> rfl
  | _ :: _, [] => rfl
  | x :: a, y :: b => by simp [joinV, joinV_comm a b, Nat.max_comm]
theorem joinV_self : ∀ (a : List Nat), joinV a a = a
  | [] => rfl
  | x :: a => by simp [joinV, joinV_self a]
theorem joinV_assoc : ∀ (a b c : List Nat), joinV (joinV a b) c = joinV a (joinV b c)
  | [], b, c => by cases b <;> cases c <;> rfl
  | _ :: _, [], c => by cases c <;> rfl
  | _ :: _, _ :: _, [] => rfl
  | x :: a, y :: b, z :: c => by simp [joinV, joinV_assoc a b c, Nat.max_assoc]
theorem below_left : ∀ (a b : List Nat), belowV a (joinV a b) = true
  | [], _ => by cases ‹List Nat› <;> rfl
  | _ :: _, [] => rfl
  | x :: a, y :: b => by simp [joinV, belowV, below_left a b]; omega
theorem below_right (a b : List Nat) : belowV b (joinV a b) = true := by rw [joinV_comm]; exact below_left b a
theorem below_least : ∀ {a b : List Nat}, a.length = b.length → ∀ c : List Nat, b.length = c.length → belowV (joinV a b) c = (belowV a c && belowV b c)
  | [], [], _, _, _ => rfl
  | x :: a, y :: b, h, [], h2 => by simp at h2
  | x :: a, y :: b, h, z :: c, h2 => by
    simp only [List.length_cons] at h h2
    simp only [joinV, belowV, below_least (a := a) (b := b) (by omega) c (by omega)]
    rw [Bool.eq_iff_iff]; simp; constructor
    · rintro ⟨h1, h2, h3⟩; exact ⟨⟨by omega, h2⟩, by omega, h3⟩
    · rintro ⟨⟨h1, h2⟩, h3, h4⟩; exact ⟨by omega, h2, h4⟩
  | [], _ :: _, h, _, _ => by simp at h
  | _ :: _, [], h, _, _ => by simp at h
theorem below_trans : ∀ {a b c : List Nat}, a.length = b.length → b.length = c.length → belowV a b = true → belowV b c = true → belowV a c = true
  | [], _, _, _, _, _, _ => rfl
  | x :: a, y :: b, z :: c, h, h2, h3, h4 => by
    simp only [List.length_cons] at h h2
    simp only [belowV, Bool.and_eq_true, decide_eq_true_eq] at h3 h4 ⊢
    exact ⟨by omega, below_trans (by omega) (by omega) h3.2 h4.2⟩
  | _ :: _, [], _, h, _, _, _ => by simp at h
  | _ :: _, _ :: _, [], _, h, _, _ => by simp at h
theorem below_both {a b : List Nat} (h : a.length = b.length) (h1 : belowV a b = true) : belowV b a = eqV a b := by
  have e1 := (belowV_iff h).1 h1
  rw [Bool.eq_iff_iff, belowV_iff h.symm, eqV_iff h, joinV_comm, e1]
  exact eq_comm
theorem below_self (a : List Nat) : belowV a a = true := by have := below_left a a; rwa [joinV_self] at this
theorem below_zero : ∀ (k : Nat) (a : List Nat), belowV (List.replicate k 0) a = true
  | 0, _ => rfl
  | k + 1, [] => rfl
  | k + 1, x :: a => by simp [List.replicate_succ, belowV, below_zero k a]


theorem take_more {α : Type} {l : List α} {i : Nat} {x : α} (h : l[i]? = some x) : l.take (i + 1) = l.take i ++ [x] := by
  rw [List.take_add_one, h]; rfl

instance (v : List Nat) : Decidable (okV v) := by unfold okV; infer_instance
end Go.Proofs.Ytkbgndebfcjojaa.Am
/-
  CELLS THAT NAME NO BLOCK OF THE CALL'S OWN. No program is named here.
-/
namespace Go.Proofs.Ytkbgndebfcjojaa.Am
set_option linter.unusedSimpArgs false
set_option linter.unusedVariables false
open Go

def FlatC (a : AV) : Prop := (∃ v, a = .v v ∧ v.oneCell' = true ∧ v ≠ .slice none 0 0) ∨ ∃ sz es, a = .fsl sz es
def FlatL (c : List AV) : Prop := ∀ a ∈ c, FlatC a
section
variable {a : AV} {c : List AV} {m : List Blk}
theorem FlatC.res (h : FlatC a) : a.res m = a := by
  rcases h with ⟨v, rfl, _, hn⟩ | ⟨sz, es, rfl⟩
  · unfold AV.res; split <;> first | rfl | exact absurd rfl hn
  · rfl
theorem FlatC.frz (h : FlatC a) : a.frz m = a := by
  rcases h with ⟨v, rfl, _, hn⟩ | ⟨sz, es, rfl⟩
  · unfold AV.frz; split <;> first | rfl | exact absurd rfl hn | simp_all
  · rfl
theorem FlatC.mapId (h : FlatC a) (f : Nat → Nat) : a.mapId f = a := by rcases h with ⟨v, rfl, _, _⟩ | ⟨sz, es, rfl⟩ <;> rfl
theorem FlatC.ids (h : FlatC a) : a.ids = [] := by rcases h with ⟨v, rfl, _, _⟩ | ⟨sz, es, rfl⟩ <;> rfl
theorem FlatC.slices (h : FlatC a) : a.slices = [] := by rcases h with ⟨v, rfl, _, _⟩ | ⟨sz, es, rfl⟩ <;> rfl
theorem FlatC.bare (h : FlatC a) : a.isBare = true := by rcases h with ⟨v, rfl, _, _⟩ | ⟨sz, es, rfl⟩ <;> rfl
theorem FlatC.one (h : FlatC a) : a.one = true := by rcases h with ⟨v, rfl, h1, _⟩ | ⟨sz, es, rfl⟩; exact h1; rfl
theorem FlatC.lend (h : FlatC a) : a.lend m = a := by rcases h with ⟨v, rfl, _, _⟩ | ⟨sz, es, rfl⟩ <;> rfl
theorem flat_res : ∀ {c : List AV}, FlatL c → AV.resAll m c = c
  | [], _ => rfl
  | a :: c, h => by rw [AV.resAll, (h a (by simp)).res, flat_res fun x hx => h x (by simp [hx])]
theorem flat_frz : ∀ {c : List AV}, FlatL c → AV.frzAll m c = c
  | [], _ => rfl
  | a :: c, h => by rw [AV.frzAll, (h a (by simp)).frz, flat_frz fun x hx => h x (by simp [hx])]
theorem flat_mapId {f : Nat → Nat} : ∀ {c : List AV}, FlatL c → AV.mapIdAll f c = c
  | [], _ => rfl
  | a :: c, h => by rw [AV.mapIdAll, (h a (by simp)).mapId, flat_mapId fun x hx => h x (by simp [hx])]
theorem flat_ids : ∀ {c : List AV}, FlatL c → AV.idsAll c = []
  | [], _ => rfl
  | a :: c, h => by rw [AV.idsAll, (h a (by simp)).ids, flat_ids fun x hx => h x (by simp [hx])]; rfl
theorem flat_slices : ∀ {c : List AV}, FlatL c → AV.slicesAll c = []
  | [], _ => rfl
  | a :: c, h => by rw [AV.slicesAll, (h a (by simp)).slices, flat_slices fun x hx => h x (by simp [hx])]; rfl
theorem flat_bare : ∀ {c : List AV}, FlatL c → AV.isBareAll c = true
  | [], _ => rfl
  | a :: c, h => by rw [AV.isBareAll, (h a (by simp)).bare, flat_bare fun x hx => h x (by simp [hx])]; rfl
theorem flat_lend : ∀ {c : List AV}, FlatL c → AV.lendAll m c = c
  | [], _ => rfl
  | a :: c, h => by rw [AV.lendAll, (h a (by simp)).lend, flat_lend fun x hx => h x (by simp [hx])]
theorem flat_one (h : FlatL c) : c.all AV.one = true := List.all_eq_true.2 fun a ha => (h a ha).one
end
attribute [simp] flat_res flat_frz flat_mapId flat_ids flat_slices flat_bare flat_lend flat_one
theorem flat_nil : FlatL [] := fun _ h => by simp at h
theorem flat_cons {a : AV} {c : List AV} (h : FlatC a) (k : FlatL c) : FlatL (a :: c) := fun x hx => by
  rcases List.mem_cons.1 hx with rfl | hx
  · exact h
  · exact k x hx
theorem flat_int (k : IntKind) (n : Int) : FlatC (.v (.int k n)) := .inl ⟨_, rfl, rfl, fun h => by cases h⟩
theorem flat_str (s : ByteArray) : FlatC (.v (.string s)) := .inl ⟨_, rfl, rfl, fun h => by cases h⟩
theorem flat_bool (b : Bool) : FlatC (.v (.bool b)) := .inl ⟨_, rfl, rfl, fun h => by cases h⟩
theorem flat_fsl (sz : Nat) (es : List AV) : FlatC (.fsl sz es) := .inr ⟨_, _, rfl⟩
theorem flat_append {c d : List AV} (h : FlatL c) (k : FlatL d) : FlatL (c ++ d) := fun x hx => by
  rcases List.mem_append.1 hx with hx | hx
  · exact h x hx
  · exact k x hx
theorem map_shaped {α : Type} {av : α → AV} {l : List α} (h : ∀ x ∈ l, (av x).shaped = true) : (l.map av).all AV.shaped = true :=
  List.all_eq_true.2 fun a ha => by obtain ⟨x, hx, rfl⟩ := List.mem_map.1 ha; exact h x hx
end Go.Proofs.Ytkbgndebfcjojaa.Am
/-
  LISTS IN THE ORDER OF A KEY, plainly: no program in sight.
-/
namespace Go.Proofs.Ytkbgndebfcjojaa.Am
set_option linter.unusedSimpArgs false
set_option linter.unusedVariables false
open Go

section
variable {α : Type} (key : α → Int)
/-- Where a key stands. -/
def posK (t : Int) : List α → Nat
  | [] => 0
  | x :: l => if key x < t then posK t l + 1 else 0
def isK' (t : Int) (l : List α) : Bool := l.any fun x => key x == t
def insK (x : α) (l : List α) : List α := l.take (posK key (key x) l) ++ [x] ++ l.drop (posK key (key x) l)
def SortK (l : List α) : Prop := l.Pairwise fun a b => key a < key b

variable {key}
theorem posK_le (t : Int) : ∀ l : List α, posK key t l ≤ l.length
  | [] => Nat.le_refl _
  | x :: l => by have := posK_le t l; simp only [posK, List.length_cons]; split <;> omega
theorem posK_lt {t : Int} : ∀ {l : List α} {i : Nat} {x : α}, i < posK key t l → l[i]? = some x → key x < t
  | [], i, x, h, hx => by simp at hx
  | y :: l, i, x, h, hx => by
    simp only [posK] at h
    split at h
    · rename_i hy
      cases i with
      | zero => simp at hx; subst hx; exact hy
      | succ i => simp at hx; exact posK_lt (by omega) hx
    · omega
theorem posK_ge {t : Int} : ∀ {l : List α} {x : α}, SortK key l → ∀ {i : Nat}, posK key t l ≤ i → l[i]? = some x → t ≤ key x
  | [], x, _, i, _, hx => by simp at hx
  | y :: l, x, hs, i, h, hx => by
    simp only [posK] at h
    split at h
    · rename_i hy
      cases i with
      | zero => omega
      | succ i => simp at hx; exact posK_ge (List.pairwise_cons.1 hs).2 (by omega) hx
    · rename_i hy
      cases i with
      | zero => simp at hx; subst hx; omega
      | succ i => simp at hx; have := (List.pairwise_cons.1 hs).1 x (List.mem_of_getElem? hx); omega
/-- It is the only place where all ahead are less and none behind is. -/
theorem posK_eq {t : Int} {l : List α} {i : Nat} (hi : i ≤ l.length) (h1 : ∀ (k : Nat) (x : α), k < i → l[k]? = some x → key x < t) (h2 : ∀ (x : α), l[i]? = some x → t ≤ key x) : i = posK key t l := by
  induction l generalizing i with
  | nil => simp at hi; subst hi; rfl
  | cons y l ih =>
    cases i with
    | zero =>
      have := h2 y rfl
      simp only [posK]; rw [if_neg (by omega)]
    | succ i =>
      have := h1 0 y (by omega) rfl
      simp only [posK]
      rw [if_pos this, ← ih (i := i) (by simpa using hi) (fun k x hk hx => h1 (k + 1) x (by omega) (by simpa using hx)) (fun x hx => h2 x (by simpa using hx))]
theorem isK_at {t : Int} {l : List α} (hs : SortK key l) : isK' key t l = match l[posK key t l]? with | some x => key x == t | none => false := by
  cases h : l[posK key t l]? with
  | none =>
    simp only
    unfold isK'
    rw [List.any_eq_false]
    intro x hx
    obtain ⟨i, hi⟩ := List.mem_iff_getElem?.1 hx
    have hlt := (List.getElem?_eq_some_iff.1 hi).1
    have h2 := List.getElem?_eq_none_iff.1 h
    have := posK_lt (t := t) (show i < posK key t l by omega) hi
    simp only [beq_iff_eq]; omega
  | some y =>
    simp only
    rw [Bool.eq_iff_iff]
    simp only [isK', List.any_eq_true, beq_iff_eq]
    constructor
    · rintro ⟨x, hx, he⟩
      obtain ⟨i, hi⟩ := List.mem_iff_getElem?.1 hx
      have hge : posK key t l ≤ i := by
        apply Nat.le_of_not_lt
        intro hlt
        have := posK_lt hlt hi
        omega
      rcases Nat.lt_or_eq_of_le hge with hlt | heq
      · have h1 := posK_ge hs (Nat.le_refl _) h
        have hp := List.pairwise_iff_getElem.1 hs _ _ (List.getElem?_eq_some_iff.1 h).1 (List.getElem?_eq_some_iff.1 hi).1 hlt
        rw [(List.getElem?_eq_some_iff.1 h).2, (List.getElem?_eq_some_iff.1 hi).2] at hp
        omega
      · rw [heq, hi] at h
        cases h
        exact he
    · intro he
      exact ⟨y, List.mem_of_getElem? h, he⟩
theorem insK_length (x : α) (l : List α) : (insK key x l).length = l.length + 1 := by
  have := posK_le (key := key) (key x) l
  simp [insK]; omega
theorem mem_insK {x y : α} {l : List α} : y ∈ insK key x l ↔ y = x ∨ y ∈ l := by
  have h : y ∈ l ↔ y ∈ l.take (posK key (key x) l) ∨ y ∈ l.drop (posK key (key x) l) := by
    rw [← List.mem_append, List.take_append_drop]
  rw [h]
  simp only [insK, List.mem_append, List.mem_singleton]
  constructor
  · rintro ((h | h) | h)
    · exact .inr (.inl h)
    · exact .inl h
    · exact .inr (.inr h)
  · rintro (h | h | h)
    · exact .inl (.inr h)
    · exact .inl (.inl h)
    · exact .inr h
theorem insK_cons {x y : α} {l : List α} : insK key x (y :: l) = if key y < key x then y :: insK key x l else x :: y :: l := by
  unfold insK
  simp only [posK]
  split <;> simp
theorem isK_false {t : Int} {l : List α} : isK' key t l = false ↔ ∀ x ∈ l, key x ≠ t := by
  simp [isK', List.any_eq_false]
theorem insK_sort {x : α} : ∀ {l : List α}, SortK key l → isK' key (key x) l = false → SortK key (insK key x l)
  | [], _, _ => by simp [insK, posK, SortK]
  | y :: l, hs, hn => by
    have hne := isK_false.1 hn
    rw [insK_cons]
    obtain ⟨h1, h2⟩ := List.pairwise_cons.1 hs
    split
    · rename_i hlt
      refine List.pairwise_cons.2 ⟨fun z hz => ?_, insK_sort h2 (isK_false.2 fun z hz => hne z (by simp [hz]))⟩
      rcases mem_insK.1 hz with rfl | hz
      · exact hlt
      · exact h1 z hz
    · rename_i hge
      have := hne y (by simp)
      refine List.pairwise_cons.2 ⟨fun z hz => ?_, hs⟩
      rcases List.mem_cons.1 hz with rfl | hz
      · omega
      · have := h1 z hz; omega
theorem sort_nil : SortK key ([] : List α) := List.Pairwise.nil
/-- Two lists in order with the same members are the same. -/
theorem sort_ext : ∀ {l m : List α}, SortK key l → SortK key m → (∀ x, x ∈ l ↔ x ∈ m) → l = m
  | [], [], _, _, _ => rfl
  | [], y :: m, _, _, h => by have := (h y).2 (by simp); simp at this
  | x :: l, [], _, _, h => by have := (h x).1 (by simp); simp at this
  | x :: l, y :: m, h1, h2, h => by
    obtain ⟨a1, a2⟩ := List.pairwise_cons.1 h1
    obtain ⟨b1, b2⟩ := List.pairwise_cons.1 h2
    have hxy : x = y := by
      rcases List.mem_cons.1 ((h x).1 (by simp)) with e | e
      · exact e
      · rcases List.mem_cons.1 ((h y).2 (by simp)) with f | f
        · exact f.symm
        · have := a1 y f; have := b1 x e; omega
    subst hxy
    congr 1
    refine sort_ext a2 b2 fun z => ?_
    constructor
    · intro hz
      rcases List.mem_cons.1 ((h z).1 (by simp [hz])) with rfl | e
      · have := a1 z hz; omega
      · exact e
    · intro hz
      rcases List.mem_cons.1 ((h z).2 (by simp [hz])) with rfl | e
      · have := b1 z hz; omega
      · exact e
theorem sort_map {β : Type} {k2 : β → Int} {f : α → β} (hk : ∀ x, k2 (f x) = key x) {l : List α} (h : SortK key l) : SortK k2 (l.map f) := by
  unfold SortK
  rw [List.pairwise_map]
  exact h.imp fun {a b} hab => by rw [hk, hk]; exact hab
end
end Go.Proofs.Ytkbgndebfcjojaa.Am
/-
  TWO SLICES IN TWO BLOCKS HAVE NOTHING IN COMMON. No program is named here.
-/
namespace Go.Proofs.Ytkbgndebfcjojaa.Am
set_option linter.unusedSimpArgs false
set_option linter.unusedVariables false
open Go Go.Proofs

def spOver : Spec
  | [.osl 0, .win 1 off n], [.arr t1 s1 es1, .buf t2 s2 es2] => if es1 ≠ [] ∧ es2 ≠ [] then some (.ret (.v (.bool false)), [.arr t1 s1 es1, .buf t2 s2 es2]) else none
  | _, _ => none

theorem over_ext {P : Program} {f : FuncId} {fn : Func} {tS tR e : TypeId} {sz : Nat} (hf : P.funcs[f]? = some fn) (hname : (fn.name == "runtime.NumGoroutine") = false) (hb : fn.body.isNone = true) (hn : Extern.findNext fn = none)
    (he : Extern.find fn = some (Extern.SlicesOverlaps.overlaps #[tS, tS] #[tR])) (ht : P.underlying tS = some (.slice e)) (hz : szOf P e = some sz) : CallOk P f spOver := by
  refine .inr (.inr fun args mem r mem' h => ?_)
  unfold spOver at h
  split at h
  case h_2 => cases h
  rename_i off n t1 s1 es1 t2 s2 es2
  obtain ⟨⟨h1, h2⟩, h3⟩ := if_some h
  cases h3
  refine ⟨rfl, _, rfl, fun O F B w vs hm hc => ⟨.bool false, ?_, .v _⟩⟩
  cases hc with
  | cons a1 a2 =>
    cases a2 with
    | cons a2 a3 =>
      cases a3
      rename_i x y
      obtain ⟨g, p, N, xs, ey, q1, q2, q3, q4, q5, q6, q7, q8, q9⟩ := win_inv (mem := [.arr t1 s1 es1, .buf t2 s2 es2]) (id := 1) rfl hm a2
      subst ey
      cases a1 with
      | omap hl => exact (hm.br 0 _ _ rfl hl).elim
      | @osl _ _ s m cap g1 hl =>
        have hbr := hm.br 0 _ _ rfl hl
        obtain ⟨b1, b2, b3, b4, ys, b5, b6⟩ := hbr
        rcases b5.2 with ⟨_, hnil⟩ | ⟨g', cap', cur, e1, _, e2, e3, e4, e5, e6⟩
        · exact absurd (List.eq_nil_of_length_eq_zero (b3 ▸ hnil)) h1
        · have hg : g1 = some g' ∧ cap = cap' := by
            cases g1 with
            | none => simp [head] at e1
            | some g1 => simp [head] at e1; exact ⟨by rw [e1.1], e1.2⟩
          obtain ⟨rfl, rfl⟩ := hg
          have hne : g' ≠ g := by
            intro hgg
            subst hgg
            have := hm.sep 0 1 g' (ownB_mk (k := .arr t1 s1 es1) rfl hl rfl rfl) (ownB_mk (k := .buf t2 s2 es2) rfl q9 rfl rfl)
            exact absurd this (by decide)
          rw [run_callFunc_extern hf hname hb hn he]
          show ((Extern.SlicesOverlaps.overlaps #[tS, tS] #[tR] #[.slice (some ⟨g', 0, none⟩) m cap, .slice (some ⟨g, p, none⟩) n (es2.length - off)]).run P w).andThen _ = _
          rw [Lib.run_overlaps_apart w tS tR e ht sz (fun w => run_size hz) ⟨g', 0, none⟩ ⟨g, p, none⟩ m cap n (es2.length - off) hne t1 t2 cur.size xs.length (by simp [World.shape?, e2]) (by simp [World.shape?, q6])
            (by
              rw [q8]
              have : es2.length ≠ 0 := fun h => h2 (List.eq_nil_of_length_eq_zero h)
              exact Nat.mul_ne_zero this (by omega))
            (by simp [World.frozen?, e2]) (by simp [World.frozen?, e2])]
          rfl
attribute [simp] spOver
end Go.Proofs.Ytkbgndebfcjojaa.Am
