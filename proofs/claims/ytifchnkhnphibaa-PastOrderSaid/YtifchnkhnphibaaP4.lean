/-
  FIELDS COME BACK FROM THEIR BYTES, AND BYTES THAT HAVE FIELDS ARE THEIRS: plainly.
-/
import Derived.Test.YtifchnkhnphibaaP3
import Derived.Laws.Strings
namespace Go.Proofs.Ytifchnkhnphibaa.Am
set_option linter.unusedSimpArgs false
set_option linter.unusedVariables false
open Go

theorem u8_small {n : Nat} (h : n < 256) : (u8 n).toNat = n := by rw [u8_toNat]; omega
theorem u8_back (c : UInt8) : u8 c.toNat = c := by
  apply UInt8.toNat_inj.1
  rw [u8_toNat]
  have := c.toNat_lt
  omega

theorem tb_mk (l : List UInt8) : tb ⟨l.toArray⟩ = l := by simp [tb]
theorem mk_tb (t : ByteArray) : (⟨(tb t).toArray⟩ : ByteArray) = t := by cases t; simp [tb]
theorem size_mk (l : List UInt8) : ByteArray.size ⟨l.toArray⟩ = l.length := by rw [← tb_length, tb_mk]
theorem size_zero {t : ByteArray} (h : t.size = 0) : t = ⟨#[]⟩ := by
  rw [← mk_tb t]
  have : tb t = [] := List.length_eq_zero_iff.1 (by rw [tb_length]; exact h)
  rw [this]

theorem beq_bytes (a b : ByteArray) : (a == b) = true ↔ a = b := by
  constructor
  · intro h
    rw [← string_beq, beq_iff_eq] at h
    rw [← mk_tb a, ← mk_tb b]
    have ha : tb a = a.toList := by rw [ByteArray.toList_eq, tb]
    have hb : tb b = b.toList := by rw [ByteArray.toList_eq, tb]
    rw [ha, hb, h]
  · rintro rfl
    rw [← string_beq, beq_iff_eq]

/-! ### Numbers -/
theorem decN_numB {n : Nat} (h : n < 18446744073709551616) (r : List UInt8) : decN (numB n ++ r) = some (n, r) := by
  have h8 := nlen_le8 h
  have hc : (u8 (nlen n)).toNat = nlen n := u8_small (by omega)
  have hl := lowB_length n (nlen n)
  have ht : (lowB n (nlen n) ++ r).take (nlen n) = lowB n (nlen n) := List.take_left' hl
  have hd : (lowB n (nlen n) ++ r).drop (nlen n) = r := by rw [List.drop_left' hl]
  have hle : leB (lowB n (nlen n)) = n := by
    rw [leB_lowB, Nat.mod_eq_of_lt ((nlen_le _ _).1 (Nat.le_refl _))]
  simp only [numB, List.cons_append, decN, hc, ht, hd, hle]
  rw [if_neg]
  rintro (h1 | h1 | ⟨h1, h2⟩)
  · omega
  · rw [List.length_append, hl] at h1; omega
  · have : ¬ nlen n ≤ nlen n - 1 := by omega
    rw [nlen_le] at this
    rcases Nat.div_eq_zero_iff.1 h2 with h3 | h3
    · exact absurd h3 (Nat.ne_of_gt (Nat.pow_pos (by decide)))
    · omega

theorem numB_decN {l r : List UInt8} {n : Nat} (h : decN l = some (n, r)) : l = numB n ++ r := by
  cases l with
  | nil => cases h
  | cons c l =>
    simp only [decN] at h
    split at h
    · cases h
    · rename_i hc
      have hc1 : ¬ 8 < c.toNat := fun h => hc (.inl h)
      have hc2 : ¬ l.length < c.toNat := fun h => hc (.inr (.inl h))
      have hc3 : 0 < c.toNat → leB (l.take c.toNat) / 256 ^ (c.toNat - 1) ≠ 0 := fun h h' => hc (.inr (.inr ⟨h, h'⟩))
      cases h
      have hl : (l.take c.toNat).length = c.toNat := by rw [List.length_take]; omega
      have hlt := leB_lt (l.take c.toNat)
      rw [hl] at hlt
      have hn : nlen (leB (l.take c.toNat)) = c.toNat := by
        by_cases h0 : c.toNat = 0
        · rw [h0] at hlt ⊢
          simp only [Nat.pow_zero, List.take_zero] at hlt ⊢
          simp [leB, nlen_zero]
        · obtain ⟨k, hk⟩ : ∃ k, c.toNat = k + 1 := ⟨c.toNat - 1, by omega⟩
          have h3 := hc3 (by omega)
          rw [hk] at hlt h3 ⊢
          refine nlen_eq hlt ?_
          apply Nat.le_of_not_lt
          intro h4
          exact h3 (Nat.div_eq_of_lt (by simpa using h4))
      simp only [numB, hn, u8_back, List.cons_append]
      have hlow : lowB (leB (l.take c.toNat)) c.toNat = l.take c.toNat := by
        have := lowB_leB (l.take c.toNat)
        rw [hl] at this; exact this
      rw [hlow, List.take_append_drop]

theorem decN_more {l r : List UInt8} {n : Nat} (h : decN l = some (n, r)) (e : List UInt8) : decN (l ++ e) = some (n, r ++ e) := by
  have hlt := decN_lt h
  rw [numB_decN h, List.append_assoc, decN_numB hlt]

/-! ### Fields -/
theorem decF_encF {f : Fld} (hm : may f = true) (ho : f.ok = true) (r : List UInt8) : decF (encF f ++ r) = some (f, r) := by
  rw [Fld.ok_iff] at ho
  have hm' := hm
  rcases may_kind hm with hk | hk | hk
  · obtain ⟨k, n, t, x⟩ := f
    simp only at hk ho
    subst hk
    simp only [may, beq_self_eq_true, Bool.true_and, Bool.or_eq_true, Bool.and_eq_true, beq_iff_eq] at hm
    have hm2 : (t == ⟨#[]⟩) = true ∧ x = 0 := by
      rcases hm with h | h
      · exact h
      · rcases h with ⟨h, _⟩ | ⟨h, _⟩ <;> cases h
    obtain ⟨ht, rfl⟩ := hm2
    have ht := (beq_bytes _ _).1 ht
    subst ht
    have he : encF ⟨1, n, ⟨#[]⟩, 0⟩ = u8 1 :: numB n := by simp [encF]
    rw [he]
    have h1 : (u8 1).toNat = 1 := rfl
    simp only [decF, List.cons_append, decG, h1, if_true, decN_numB ho.1, Option.map_some, Option.bind_some, hm']
  · obtain ⟨h1, h2, h3⟩ := may_text hm hk
    obtain ⟨k, n, t, x⟩ := f
    simp only at hk h1 h2 h3 ho
    subst hk; subst h1; subst h2
    have he : encF ⟨2, 0, t, 0⟩ = u8 2 :: (numB t.size ++ tb t) := by simp [encF]
    rw [he]
    have h1 : (u8 2).toNat = 2 := rfl
    have hmin : min t.size 8001 = t.size := by omega
    have htk : (tb t ++ r).take t.size = tb t := List.take_left' (tb_length t)
    have hdr : (tb t ++ r).drop t.size = r := List.drop_left' (tb_length t)
    have hlen : ¬ (tb t ++ r).length < t.size := by rw [List.length_append, tb_length]; omega
    simp only [decF, List.cons_append, decG, h1, if_true, List.append_assoc, decN_numB (show t.size < 18446744073709551616 by omega), Option.bind_some, hmin, htk, hdr, hlen, if_false, mk_tb, hm']
    simp [hm']
  · obtain ⟨k, n, t, x⟩ := f
    simp only at hk ho
    subst hk
    have hm2 : n = 0 ∧ (t == ⟨#[]⟩) = true ∧ canon x = x := by
      simp only [may, Bool.or_eq_true, Bool.and_eq_true, beq_iff_eq] at hm
      rcases hm with ⟨h, _⟩ | ⟨h, _⟩ | ⟨_, ⟨h1, h2⟩, h3⟩
      · exact absurd h (by decide)
      · exact absurd h (by decide)
      · exact ⟨h1, h2, h3⟩
    obtain ⟨rfl, ht, hx⟩ := hm2
    have ht := (beq_bytes _ _).1 ht
    subst ht
    have he : encF ⟨3, 0, ⟨#[]⟩, x⟩ = u8 3 :: lowB (rcode x) 8 := by simp [encF]
    rw [he]
    have h1 : (u8 3).toNat = 3 := rfl
    have hl := lowB_length (rcode x) 8
    have htk : (lowB (rcode x) 8 ++ r).take 8 = lowB (rcode x) 8 := List.take_left' hl
    have hdr : (lowB (rcode x) 8 ++ r).drop 8 = r := List.drop_left' hl
    have hlen : ¬ (lowB (rcode x) 8 ++ r).length < 8 := by rw [List.length_append, hl]; omega
    have hle : leB (lowB (rcode x) 8) = rcode x := by
      rw [leB_lowB]
      have := rcode_lt ho.2
      omega
    simp only [decF, List.cons_append, decG, h1, htk, hdr, hlen, hle, rdec_rcode ho.2, hx]
    simp [hm']

theorem encF_decF {l r : List UInt8} {f : Fld} (h : decF l = some (f, r)) : l = encF f ++ r ∧ may f = true ∧ f.ok = true := by
  unfold decF at h
  rw [Option.bind_eq_some_iff] at h
  obtain ⟨p, hg, h⟩ := h
  obtain ⟨hm, h⟩ := if_some h
  cases h
  cases l with
  | nil => cases hg
  | cons c l =>
    simp only [decG] at hg
    split at hg
    · rename_i hc
      rw [Option.map_eq_some_iff] at hg
      obtain ⟨⟨n, r'⟩, hn, hg⟩ := hg
      cases hg
      have hlt := decN_lt hn
      refine ⟨?_, hm, by rw [Fld.ok_iff]; exact ⟨hlt, by simp⟩⟩
      rw [numB_decN hn]
      have hcu : c = u8 1 := by rw [← u8_back c, hc]
      simp [encF, hcu]
    · split at hg
      · rename_i hc
        rw [Option.bind_eq_some_iff] at hg
        obtain ⟨⟨n, r'⟩, hn, hg⟩ := hg
        have hlt := decN_lt hn
        simp only at hg
        split at hg
        · cases hg
        · rename_i hlen
          cases hg
          have h3 := (may_text hm rfl).2.2
          simp only [size_mk] at h3
          have hmin : min n 8001 = n := by
            rw [List.length_take] at h3
            omega
          rw [hmin] at hlen hm ⊢
          refine ⟨?_, hm, by rw [Fld.ok_iff]; exact ⟨by simp, by simp⟩⟩
          have hln : (r'.take n).length = n := by rw [List.length_take]; omega
          have hcu : c = u8 2 := by rw [← u8_back c, hc]
          have he : encF ⟨2, 0, ⟨(r'.take n).toArray⟩, 0⟩ = u8 2 :: (numB n ++ r'.take n) := by simp [encF, size_mk, hln, tb_mk]
          rw [he, numB_decN hn, hcu]
          simp
      · split at hg
        · rename_i hc
          split at hg
          · cases hg
          · rename_i hlen
            rw [Option.map_eq_some_iff] at hg
            obtain ⟨x, hx, hg⟩ := hg
            cases hg
            have hl8 : (l.take 8).length = 8 := by rw [List.length_take]; omega
            have hlt : leB (l.take 8) < 18446744073709551616 := by
              have := leB_lt (l.take 8)
              rw [hl8] at this; omega
            obtain ⟨q1, q2, q3⟩ := rdec_some hlt hx
            refine ⟨?_, hm, by rw [Fld.ok_iff]; exact ⟨by simp, q3⟩⟩
            have hcu : c = u8 3 := by rw [← u8_back c, hc]
            have hlow := lowB_leB (l.take 8)
            rw [hl8] at hlow
            have he : encF ⟨3, 0, ⟨#[]⟩, x⟩ = u8 3 :: l.take 8 := by simp [encF, q1, hlow]
            rw [he, hcu]
            simp
        · rename_i h1 h2 h3
          cases hg
          exfalso
          have := may_kind hm
          simp only at this
          omega

theorem decF_more {l r : List UInt8} {f : Fld} (h : decF l = some (f, r)) (e : List UInt8) : decF (l ++ e) = some (f, r ++ e) := by
  obtain ⟨h1, h2, h3⟩ := encF_decF h
  rw [h1, List.append_assoc, decF_encF h2 h3]

theorem decFs_flat : ∀ (l : List Fld) (r : List UInt8), (∀ f ∈ l, may f = true ∧ f.ok = true) → decFs l.length (flatE l ++ r) = some (l, r)
  | [], r, _ => rfl
  | f :: l, r, h => by
    have h1 := h f (by simp)
    have h2 := decFs_flat l r (fun g hg => h g (by simp [hg]))
    simp only [List.length_cons, flatE, List.append_assoc, decFs, decF_encF h1.1 h1.2, Option.bind_some, h2, Option.map_some]

theorem flat_decFs : ∀ (n : Nat) (l r : List UInt8) (fs : List Fld), decFs n l = some (fs, r) → l = flatE fs ++ r ∧ fs.length = n ∧ ∀ f ∈ fs, may f = true ∧ f.ok = true
  | 0, l, r, fs, h => by simp only [decFs, Option.some.injEq, Prod.mk.injEq] at h; obtain ⟨rfl, rfl⟩ := h; exact ⟨rfl, rfl, by simp⟩
  | n + 1, l, r, fs, h => by
    simp only [decFs, Option.bind_eq_some_iff, Option.map_eq_some_iff] at h
    obtain ⟨⟨f, l'⟩, hf, ⟨fs', r'⟩, hfs, h⟩ := h
    cases h
    obtain ⟨h1, h2, h3⟩ := encF_decF hf
    obtain ⟨k1, k2, k3⟩ := flat_decFs n l' r' fs' hfs
    refine ⟨by rw [h1, k1]; simp [flatE], by simp [k2], fun g hg => ?_⟩
    rcases List.mem_cons.1 hg with rfl | hg
    · exact ⟨h2, h3⟩
    · exact k3 g hg

theorem decFs_more {n : Nat} {l r : List UInt8} {fs : List Fld} (h : decFs n l = some (fs, r)) (e : List UInt8) : decFs n (l ++ e) = some (fs, r ++ e) := by
  obtain ⟨h1, h2, h3⟩ := flat_decFs n l r fs h
  rw [h1, List.append_assoc, ← h2, decFs_flat fs _ h3]

/-! ### The whole -/
theorem encE_zero {l : List Fld} (h : encE l = 0) : (∀ f ∈ l, may f = true) ∧ l.length ≤ 200 ∧ (encAll l).length ≤ 8000 ∧ enc l = encAll l := by
  have hh := h
  unfold encE at h
  split at h
  · rename_i hall
    split at h
    · cases h
    · rename_i hno
      exact ⟨List.all_eq_true.1 hall, by omega, by omega, by unfold enc; rw [if_pos hh]⟩
  · cases h

theorem encE_of {l : List Fld} (h1 : ∀ f ∈ l, may f = true) (h2 : l.length ≤ 200) (h3 : (encAll l).length ≤ 8000) : encE l = 0 := by
  unfold encE
  rw [if_pos (List.all_eq_true.2 h1), if_neg (by omega)]

/-- Fields come back. -/
theorem dec_enc {l : List Fld} (h : encE l = 0) (ho : ∀ f ∈ l, f.ok = true) : dec (enc l) = some l := by
  obtain ⟨h1, h2, h3, h4⟩ := encE_zero h
  rw [h4]
  have hc : (u8 l.length).toNat = l.length := u8_small (by omega)
  have hfl := decFs_flat l [] (fun f hf => ⟨h1 f hf, ho f hf⟩)
  rw [List.append_nil] at hfl
  unfold dec
  rw [if_neg (by omega)]
  simp only [encAll, hc, hfl, Option.bind_some]
  rw [if_pos ⟨trivial, h2⟩]

/-- Bytes that have fields are just theirs. -/
theorem enc_dec {b : List UInt8} {l : List Fld} (h : dec b = some l) : encE l = 0 ∧ enc l = b ∧ ∀ f ∈ l, f.ok = true := by
  unfold dec at h
  split at h
  · cases h
  · rename_i hlen
    cases b with
    | nil => cases h
    | cons c b =>
      simp only [Option.bind_eq_some_iff] at h
      obtain ⟨⟨fs, r⟩, hfs, h⟩ := h
      obtain ⟨⟨hr, hc⟩, h⟩ := if_some h
      simp only at hr hc
      subst hr
      cases h
      obtain ⟨h1, h2, h3⟩ := flat_decFs _ _ _ _ hfs
      simp only at h1 h2 h3 ⊢
      rw [List.append_nil] at h1
      have hb : encAll fs = c :: b := by rw [encAll, h2, u8_back, h1]
      have he := encE_of (fun f hf => (h3 f hf).1) (by omega) (by rw [hb]; omega)
      exact ⟨he, by rw [(encE_zero he).2.2.2, hb], fun f hf => (h3 f hf).2⟩

theorem enc_inj {l m : List Fld} (h1 : encE l = 0) (h2 : encE m = 0) (o1 : ∀ f ∈ l, f.ok = true) (o2 : ∀ f ∈ m, f.ok = true) (h : enc l = enc m) : l = m := by
  have e1 := dec_enc h1 o1
  rw [h, dec_enc h2 o2] at e1
  exact (Option.some.inj e1).symm

/-- No beginning. -/
theorem dec_take {l : List Fld} (h : encE l = 0) (ho : ∀ f ∈ l, f.ok = true) {k : Nat} (hk : k < (enc l).length) : dec ((enc l).take k) = none := by
  cases hd : dec ((enc l).take k) with
  | none => rfl
  | some m =>
    exfalso
    obtain ⟨h1, h2, h3⟩ := enc_dec hd
    obtain ⟨a1, a2, a3, a4⟩ := encE_zero h
    obtain ⟨b1, b2, b3, b4⟩ := encE_zero h1
    cases k with
    | zero => rw [b4] at h2; simp [encAll] at h2
    | succ k =>
      rw [a4] at h2 hk
      rw [b4] at h2
      simp only [encAll, List.take_succ_cons, List.cons.injEq] at h2
      have hlm : m.length = l.length := by
        have := congrArg UInt8.toNat h2.1
        rwa [u8_small (by omega), u8_small (by omega)] at this
      have e1 := decFs_flat m ((flatE l).drop k) (fun f hf => ⟨b1 f hf, h3 f hf⟩)
      rw [h2.2, List.take_append_drop, hlm] at e1
      have e2 := decFs_flat l [] (fun f hf => ⟨a1 f hf, ho f hf⟩)
      rw [List.append_nil, e1] at e2
      simp only [Option.some.injEq, Prod.mk.injEq] at e2
      have := congrArg List.length e2.2
      rw [List.length_drop] at this
      simp only [encAll, List.length_cons, List.length_nil] at hk this
      omega

/-- Nothing behind. -/
theorem dec_snoc {l : List Fld} (h : encE l = 0) (ho : ∀ f ∈ l, f.ok = true) (x : UInt8) : dec (enc l ++ [x]) = none := by
  cases hd : dec (enc l ++ [x]) with
  | none => rfl
  | some m =>
    exfalso
    obtain ⟨h1, h2, h3⟩ := enc_dec hd
    have := dec_take h1 h3 (k := (enc l).length) (by rw [h2]; simp)
    rw [h2, List.take_left' rfl, dec_enc h ho] at this
    cases this
end Go.Proofs.Ytifchnkhnphibaa.Am
