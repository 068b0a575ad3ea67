/-
  THE DOCUMENT'S WAY TO READ FIELDS, plainly: it comes to the same.
-/
import Derived.Test.YtifchnkhnphibaaP4
namespace Go.Proofs.Ytifchnkhnphibaa.Am
set_option linter.unusedSimpArgs false
set_option linter.unusedVariables false
open Go

/-- A number without its lowest bytes. -/
def dv (m i : Nat) : Nat := m / 256 ^ i
theorem dv_zero (m : Nat) : dv m 0 = m := by simp [dv]
theorem dv_div (m i : Nat) : dv m i / 256 = dv m (i + 1) := by simp only [dv, Nat.div_div_eq_div_mul, Nat.pow_succ]
theorem dv_pos (m i : Nat) : 0 < dv m i ↔ i < nlen m := by
  have h := nlen_le i m
  have hp : 0 < 256 ^ i := Nat.pow_pos (by decide)
  have : 0 < dv m i ↔ 256 ^ i ≤ m := by
    unfold dv
    constructor
    · intro h; exact (Nat.div_pos_iff.1 h).2
    · intro h; exact Nat.div_pos h hp
  omega
theorem dv_lt {m : Nat} (h : m < 18446744073709551616) (i : Nat) : dv m i < 18446744073709551616 := Nat.lt_of_le_of_lt (Nat.div_le_self _ _) h

/-- The number of so many bytes at a place. -/
def valB (b : List UInt8) (at_ size : Nat) : Nat := leB ((b.drop at_).take size)
theorem valB_lt (b : List UInt8) (at_ : Nat) {size : Nat} (h : size ≤ 8) : valB b at_ size < 18446744073709551616 := by
  have h1 := leB_lt ((b.drop at_).take size)
  have h2 : 256 ^ ((b.drop at_).take size).length ≤ 256 ^ 8 := Nat.pow_le_pow_right (by decide) (by rw [List.length_take]; omega)
  have : (256 : Nat) ^ 8 = 18446744073709551616 := by decide
  unfold valB
  omega

/-- The field that begins at a place, and how many bytes it would have. -/
def oneP (b : List UInt8) (at_ : Nat) : Fld × Nat :=
  if leB ((b.drop at_).take 1) = 3 then (⟨3, 0, ⟨#[]⟩, (rdec (valB b (at_ + 1) 8)).getD 0⟩, 9)
  else if leB ((b.drop at_).take 1) = 2 then
    (⟨2, 0, ⟨((b.take (min (at_ + 2 + valB b (at_ + 1) 1 + min (valB b (at_ + 2) (min (valB b (at_ + 1) 1) 8)) 8000) b.length)).drop (at_ + 2 + valB b (at_ + 1) 1)).toArray⟩, 0⟩, 2 + valB b (at_ + 1) 1 + min (valB b (at_ + 2) (min (valB b (at_ + 1) 1) 8)) 8000)
  else (⟨leB ((b.drop at_).take 1), valB b (at_ + 2) (min (valB b (at_ + 1) 1) 8), ⟨#[]⟩, 0⟩, 2 + valB b (at_ + 1) 1)

def refFs : Nat → List UInt8 → Nat → List Fld
  | 0, _, _ => []
  | j + 1, b, at_ => if at_ < b.length then (oneP b at_).1 :: refFs j b (at_ + (oneP b at_).2) else []

def refL (b : List UInt8) : List Fld := refFs (b.headD 0).toNat b 1
def refOk (b : List UInt8) : Bool := decide (0 < b.length ∧ b.length ≤ 8000 ∧ encE (refL b) = 0 ∧ enc (refL b) = b)

theorem oneP_ok (b : List UInt8) (at_ : Nat) : (oneP b at_).1.ok = true := by
  rw [Fld.ok_iff]
  unfold oneP
  split
  · refine ⟨by simp, ?_⟩
    simp only
    cases h : rdec (valB b (at_ + 1) 8) with
    | none => simp
    | some x => exact (rdec_some (valB_lt b _ (by decide)) h).2.2
  · split
    · exact ⟨by simp, by simp⟩
    · exact ⟨valB_lt b _ (Nat.min_le_right _ _), by simp⟩

theorem refFs_ok : ∀ (j : Nat) (b : List UInt8) (at_ : Nat), ∀ f ∈ refFs j b at_, f.ok = true
  | 0, _, _, f, h => by simp [refFs] at h
  | j + 1, b, at_, f, h => by
    simp only [refFs] at h
    split at h
    · rcases List.mem_cons.1 h with rfl | h
      · exact oneP_ok b at_
      · exact refFs_ok j b _ f h
    · simp at h
theorem refFs_len : ∀ (j : Nat) (b : List UInt8) (at_ : Nat), (refFs j b at_).length ≤ j
  | 0, _, _ => by simp [refFs]
  | j + 1, b, at_ => by
    simp only [refFs]
    split
    · have := refFs_len j b (at_ + (oneP b at_).2)
      simp; omega
    · simp
theorem refL_ok (b : List UInt8) : ∀ f ∈ refL b, f.ok = true := refFs_ok _ _ _
theorem refL_len (b : List UInt8) : (refL b).length ≤ 255 := by
  have := refFs_len (b.headD 0).toNat b 1
  have := (b.headD 0).toNat_lt
  unfold refL; omega

theorem drop_more {b : List UInt8} {at_ : Nat} {x r : List UInt8} (h : b.drop at_ = x ++ r) (k : Nat) : b.drop (at_ + k) = (x ++ r).drop k := by rw [← h, List.drop_drop]

theorem oneP_encF {b : List UInt8} {at_ : Nat} {f : Fld} {r : List UInt8} (h : b.drop at_ = encF f ++ r) (hm : may f = true) (ho : f.ok = true) : oneP b at_ = (f, (encF f).length) := by
  rw [Fld.ok_iff] at ho
  have hm' := hm
  have hb : b.length = at_ + (encF f).length + r.length ∨ encF f ++ r = [] := by
    by_cases hl : at_ ≤ b.length
    · left
      have := congrArg List.length h
      rw [List.length_drop, List.length_append] at this
      omega
    · right
      rw [← h, List.drop_eq_nil_iff]; omega
  rcases may_kind hm with hk | hk | hk
  · obtain ⟨k, n, t, x⟩ := f
    simp only at hk ho
    subst hk
    have he : encF ⟨1, n, t, x⟩ = u8 1 :: numB n := by simp [encF]
    have hm2 : (t == ⟨#[]⟩) = true ∧ x = 0 := by
      simp only [may, beq_self_eq_true, Bool.true_and, Bool.or_eq_true, Bool.and_eq_true, beq_iff_eq] at hm
      rcases hm with h | h
      · exact h
      · rcases h with ⟨h, _⟩ | ⟨h, _⟩ <;> cases h
    obtain ⟨ht, rfl⟩ := hm2
    have ht := (beq_bytes _ _).1 ht
    subst ht
    rw [he] at h ⊢
    have h8 := nlen_le8 ho.1
    have d0 := drop_more h 0
    have d1 := drop_more h 1
    have d2 := drop_more h 2
    simp only [numB, List.cons_append, List.drop_zero, Nat.add_zero, List.drop_succ_cons] at d0 d1 d2
    have c1 : (u8 1).toNat = 1 := rfl
    have cn : (u8 (nlen n)).toNat = nlen n := u8_small (by omega)
    have v1 : valB b (at_ + 1) 1 = nlen n := by simp [valB, d1, leB, cn]
    have hmin : min (nlen n) 8 = nlen n := by omega
    have v2 : valB b (at_ + 2) (nlen n) = n := by
      unfold valB
      rw [d2, List.take_left' (lowB_length n (nlen n)), leB_lowB, Nat.mod_eq_of_lt ((nlen_le _ _).1 (Nat.le_refl _))]
    unfold oneP
    rw [d0, v1, hmin, v2]
    simp [leB, c1, numB_length]; omega
  · obtain ⟨h1, h2, h3⟩ := may_text hm hk
    obtain ⟨k, n, t, x⟩ := f
    simp only at hk h1 h2 h3 ho
    subst hk; subst h1; subst h2
    have he : encF ⟨2, 0, t, 0⟩ = u8 2 :: (numB t.size ++ tb t) := by simp [encF]
    rw [he] at h hb ⊢
    have h8 := nlen_le8 (n := t.size) (by omega)
    have hlen : b.length = at_ + (2 + nlen t.size + t.size) + r.length := by
      rcases hb with hb | hb
      · rw [hb]; simp [numB_length]; omega
      · simp at hb
    have d0 := drop_more h 0
    have d1 := drop_more h 1
    have d2 := drop_more h 2
    have d3 := drop_more h (2 + nlen t.size)
    simp only [numB, List.cons_append, List.append_assoc, List.drop_zero, Nat.add_zero, List.drop_succ_cons] at d0 d1 d2
    have d3' : b.drop (at_ + 2 + nlen t.size) = tb t ++ r := by
      rw [Nat.add_assoc, d3, show 2 + nlen t.size = nlen t.size + 1 + 1 by omega]
      simp only [numB, List.cons_append, List.append_assoc, List.drop_succ_cons]
      exact List.drop_left' (lowB_length _ _)
    have c2 : (u8 2).toNat = 2 := rfl
    have cn : (u8 (nlen t.size)).toNat = nlen t.size := u8_small (by omega)
    have v1 : valB b (at_ + 1) 1 = nlen t.size := by simp [valB, d1, leB, cn]
    have hmin : min (nlen t.size) 8 = nlen t.size := by omega
    have v2 : valB b (at_ + 2) (nlen t.size) = t.size := by
      unfold valB
      rw [d2, List.take_left' (lowB_length _ _), leB_lowB, Nat.mod_eq_of_lt ((nlen_le _ _).1 (Nat.le_refl _))]
    have hmin2 : min t.size 8000 = t.size := by omega
    have hmin3 : min (at_ + 2 + nlen t.size + t.size) b.length = at_ + 2 + nlen t.size + t.size := by omega
    have htx : (b.take (at_ + 2 + nlen t.size + t.size)).drop (at_ + 2 + nlen t.size) = tb t := by
      rw [List.drop_take, d3', show at_ + 2 + nlen t.size + t.size - (at_ + 2 + nlen t.size) = t.size by omega]
      exact List.take_left' (tb_length t)
    unfold oneP
    rw [d0, v1, hmin, v2, hmin2, hmin3, htx, mk_tb]
    simp [leB, c2, numB_length]; omega
  · obtain ⟨k, n, t, x⟩ := f
    simp only at hk ho
    subst hk
    have hm2 : n = 0 ∧ (t == ⟨#[]⟩) = true ∧ canon x = x := by
      simp only [may, Bool.or_eq_true, Bool.and_eq_true, beq_iff_eq] at hm
      rcases hm with ⟨h, _⟩ | ⟨h, _⟩ | ⟨_, ⟨h1, h2⟩, h3⟩
      · exact absurd h (by decide)
      · exact absurd h (by decide)
      · exact ⟨h1, h2, h3⟩
    obtain ⟨rfl, ht, hx⟩ := hm2
    have ht := (beq_bytes _ _).1 ht
    subst ht
    have he : encF ⟨3, 0, ⟨#[]⟩, x⟩ = u8 3 :: lowB (rcode x) 8 := by simp [encF]
    rw [he] at h ⊢
    have d0 := drop_more h 0
    have d1 := drop_more h 1
    simp only [List.cons_append, List.drop_zero, Nat.add_zero, List.drop_succ_cons] at d0 d1
    have c3 : (u8 3).toNat = 3 := rfl
    have v1 : valB b (at_ + 1) 8 = rcode x := by
      unfold valB
      rw [d1, List.take_left' (lowB_length _ 8), leB_lowB]
      have := rcode_lt ho.2
      omega
    unfold oneP
    rw [d0, v1, rdec_rcode ho.2, hx]
    simp [leB, c3, lowB_length]

theorem encF_pos (f : Fld) : 0 < (encF f).length := by unfold encF; split <;> (try split) <;> simp

theorem refFs_flat : ∀ (fs : List Fld) (b : List UInt8) (at_ : Nat), (∀ f ∈ fs, may f = true ∧ f.ok = true) → b.drop at_ = flatE fs → refFs fs.length b at_ = fs
  | [], _, _, _, _ => rfl
  | f :: fs, b, at_, h, hd => by
    have h1 := h f (by simp)
    have hone := oneP_encF (r := flatE fs) hd h1.1 h1.2
    have hlt : at_ < b.length := by
      have := congrArg List.length hd
      have := encF_pos f
      rw [List.length_drop] at *
      simp only [flatE, List.length_append] at *
      omega
    simp only [List.length_cons, refFs, hlt, if_true, hone]
    congr 1
    refine refFs_flat fs b _ (fun g hg => h g (by simp [hg])) ?_
    have := drop_more (r := flatE fs) hd (encF f).length
    rw [this, List.drop_left' rfl]

/-- Both ways come to the same. -/
theorem ref_dec (b : List UInt8) : (dec b).isSome = refOk b ∧ (refOk b = true → (dec b).getD [] = refL b) := by
  cases hd : dec b with
  | some fs =>
    obtain ⟨h1, h2, h3⟩ := enc_dec hd
    obtain ⟨a1, a2, a3, a4⟩ := encE_zero h1
    have hb : b = u8 fs.length :: flatE fs := by rw [← h2, a4]; rfl
    have hL : refL b = fs := by
      have hc : (b.headD 0).toNat = fs.length := by rw [hb]; exact u8_small (by omega)
      unfold refL
      rw [hc]
      exact refFs_flat fs b 1 (fun f hf => ⟨a1 f hf, h3 f hf⟩) (by rw [hb]; rfl)
    have hok : refOk b = true := by
      unfold refOk
      rw [decide_eq_true_eq, hL]
      refine ⟨by rw [hb]; simp, ?_, h1, h2⟩
      rw [← h2, a4]; exact a3
    exact ⟨by rw [hok]; rfl, fun _ => by rw [hL]; rfl⟩
  | none =>
    have hno : refOk b = false := by
      unfold refOk
      rw [decide_eq_false_iff_not]
      rintro ⟨h1, h2, h3, h4⟩
      have := dec_enc h3 (refL_ok b)
      rw [h4, hd] at this
      cases this
    exact ⟨by rw [hno]; rfl, fun h => by rw [hno] at h; cases h⟩
end Go.Proofs.Ytifchnkhnphibaa.Am
