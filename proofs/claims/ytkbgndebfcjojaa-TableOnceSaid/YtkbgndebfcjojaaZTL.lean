/-
  PLAIN LAWS OF A TABLE: what a vote leaves may be; what it changes of it, and what not.
-/
import Derived.Test.YtkbgndebfcjojaaZT14
namespace Go.Proofs.Ytkbgndebfcjojaa.Am
set_option linter.unusedSimpArgs false
set_option linter.unusedVariables false
open Go Go.Proofs

/-! ### Cases -/
theorem voted_no {l : List Ba} {w : Nat} (h : votedB l w = false) : ∀ b ∈ l, hasS b.2 w = false := fun b hb => by
  unfold votedB at h
  rw [List.any_eq_false] at h
  exact not_true' (h b hb)
theorem with_and {n x w : Nat} (h : n &&& x = 0) (hx : hasS x w = false) : withS n w &&& x = 0 := by
  apply Nat.eq_of_testBit_eq
  intro i
  have h1 := congrArg (fun y => y.testBit i) h
  have h2 : (withS n w).testBit i = (hasS n i || (decide (w = i) && decide (w < 16))) := has_with w i
  simp only [Nat.testBit_and, Nat.zero_testBit, hasS] at h1 h2 hx ⊢
  rw [h2]
  by_cases hi : w = i
  · subst hi; simp [hx]
  · simp [hi, h1]
theorem with_sound {l : List Ba} {w : Nat} {s : ByteArray} (h : SoundL l) (hv : votedB l w = false) : SoundL (withB l w s) := by
  have hn := voted_no hv
  unfold withB
  cases hp : posB l s with
  | none =>
    have hd : ∀ b ∈ l, b.1 ≠ s := fun b hb e => by
      have := List.findIdx?_eq_none_iff.1 hp b hb
      rw [beq_bytes] at this
      simp [e] at this
    refine sound_more.2 ⟨h, fun b hb => ⟨hd b hb, ?_⟩⟩
    rw [Nat.and_comm]
    exact with_and (by simp) (hn b hb)
  | some i =>
    obtain ⟨b, hb, e1, e2⟩ := pos_at hp
    obtain ⟨hl, hb'⟩ := List.getElem?_eq_some_iff.1 hb
    have hP := List.pairwise_iff_getElem.1 h
    refine List.pairwise_iff_getElem.2 fun j k hj hk hjk => ?_
    simp only [List.length_set] at hj hk
    simp only [List.getElem_set]
    by_cases q1 : i = j
    · subst q1
      rw [if_pos rfl, if_neg (by omega)]
      have := hP i k hj hk hjk
      rw [hb', e1] at this
      have h3 : withS (forB l s) w &&& (l[k]'hk).2 = 0 := by rw [e2]; exact with_and this.2 (hn _ (List.getElem_mem hk))
      exact ⟨this.1, h3⟩
    · rw [if_neg q1]
      by_cases q2 : i = k
      · subst q2
        rw [if_pos rfl]
        have := hP j i hj hk hjk
        rw [hb', e1] at this
        have h3 : (l[j]'hj).2 &&& withS (forB l s) w = 0 := by rw [e2, Nat.and_comm]; exact with_and (by rw [Nat.and_comm]; exact this.2) (hn _ (List.getElem_mem hj))
        exact ⟨this.1, h3⟩
      · rw [if_neg q2]
        exact hP j k hj hk hjk
def SoundC (c : Cs) : Prop := SoundL c.es ∧ SoundL c.rs
theorem ready_sound {c : Cs} {s : ByteArray} (h : SoundC c) : SoundC (readyV c s).1 ∧ (readyV c s).1.d = c.d := by
  unfold readyV
  split
  · exact ⟨h, rfl⟩
  · exact ⟨h, rfl⟩
theorem done_sound {p : Cs × List Ou} {n many : Int} {s : ByteArray} (h : SoundC p.1) : SoundC (doneV p n many s).c ∧ (doneV p n many s).c.d = (p.1.d || (doneV p n many s).i) ∧ (p.1.d = true → (doneV p n many s).i = false) := by
  unfold doneV
  split
  · rename_i hh
    exact ⟨h, by simp, by simp [hh.1]⟩
  · exact ⟨h, by simp, by simp⟩
theorem takeV_law {c : Cs} (h : SoundC c) (m f : Nat) (k : Int) (w : Nat) (s : ByteArray) : SoundC (takeV c m f k w s).c ∧ (takeV c m f k w s).c.d = (c.d || (takeV c m f k w s).i) ∧ (c.d = true → (takeV c m f k w s).i = false) ∧
    ((takeV c m f k w s).x ≠ 0 → takeV c m f k w s = failV c (takeV c m f k w s).x) := by
  have hF : ∀ x, SoundC (failV c x).c ∧ (failV c x).c.d = (c.d || (failV c x).i) ∧ (c.d = true → (failV c x).i = false) ∧ ((failV c x).x ≠ 0 → failV c x = failV c (failV c x).x) := fun x => ⟨h, by simp [failV], by simp [failV], fun _ => rfl⟩
  unfold takeV
  split
  · exact hF _
  split
  · exact hF _
  split
  · split
    · exact hF _
    · exact ⟨h, by simp, by simp, by simp⟩
  split
  · unfold echoV
    split
    · exact hF _
    · rename_i hv
      have hw : SoundC ⟨c.e, c.r, c.d, withB c.es w s, c.rs⟩ := ⟨with_sound h.1 (not_true' hv), h.2⟩
      split
      · have := ready_sound (s := s) hw
        exact ⟨this.1, by simp [this.2], by simp, by simp⟩
      · exact ⟨hw, by simp, by simp, by simp⟩
  · unfold readiedV
    split
    · exact hF _
    · rename_i hv
      have hw : SoundC ⟨c.e, c.r, c.d, c.es, withB c.rs w s⟩ := ⟨h.1, with_sound h.2 (not_true' hv)⟩
      split
      · have := ready_sound (s := s) hw
        have hd := done_sound (n := (sizeS m : Nat)) (many := (sizeS (withS (forB c.rs s) w) : Nat)) (s := s) this.1
        rw [this.2] at hd
        exact ⟨hd.1, hd.2.1, hd.2.2, fun hx => absurd (done_x _ _ _ _) hx⟩
      · have hd := done_sound (p := (⟨c.e, c.r, c.d, c.es, withB c.rs w s⟩, [])) (n := (sizeS m : Nat)) (many := (sizeS (withS (forB c.rs s) w) : Nat)) (s := s) hw
        exact ⟨hd.1, hd.2.1, hd.2.2, fun hx => absurd (done_x _ _ _ _) hx⟩

/-! ### What settles -/
theorem settle_ge : ∀ (k f n : Nat) (l : List Op), n ≤ (settleN k f n l).1
  | 0, _, _, _ => Nat.le_refl _
  | k + 1, f, n, l => by
    unfold settleN
    split
    · split
      · exact Nat.le_trans (Nat.le_succ n) (settle_ge k f (n + 1) _)
      · exact Nat.le_refl _
    · exact Nat.le_refl _
theorem settle_in : ∀ (k f n : Nat) (l : List Op) (o : Op), o ∈ (settleN k f n l).2 ↔ o ∈ l ∧ ¬ ((f : Int) * 2000 + (n : Int) ≤ keyOp o ∧ keyOp o < (f : Int) * 2000 + ((settleN k f n l).1 : Nat))
  | 0, f, n, l, o => by
    simp only [settleN]
    exact ⟨fun h => ⟨h, by omega⟩, fun h => h.1⟩
  | k + 1, f, n, l, o => by
    unfold settleN
    split
    · split
      · rw [settle_in k f (n + 1) _ o, mem_del]
        have := settle_ge k f (n + 1) (delK ((f : Int) * 2000 + (n : Int)) l)
        constructor
        · rintro ⟨⟨h1, h2⟩, h3⟩
          exact ⟨h1, by omega⟩
        · rintro ⟨h1, h2⟩
          exact ⟨⟨h1, by omega⟩, by omega⟩
      · exact ⟨fun h => ⟨h, by simp only; omega⟩, fun h => h.1⟩
    · exact ⟨fun h => ⟨h, by simp only; omega⟩, fun h => h.1⟩
theorem settle_gone : ∀ (k f n : Nat) (l : List Op) (q : Int), (n : Int) ≤ q → q < ((settleN k f n l).1 : Nat) → ∃ o ∈ l, keyOp o = (f : Int) * 2000 + q ∧ o.c.d = true
  | 0, f, n, l, q, h1, h2 => by simp only [settleN] at h2; omega
  | k + 1, f, n, l, q, h1, h2 => by
    unfold settleN at h2
    split at h2
    · rename_i o ho
      split at h2
      · rename_i hd
        by_cases e : q = (n : Int)
        · subst e
          exact ⟨o, (find_some ho).1, (find_some ho).2, hd⟩
        · obtain ⟨o2, a, b, c⟩ := settle_gone k f (n + 1) _ q (by omega) h2
          exact ⟨o2, (mem_del.1 a).1, b, c⟩
      · simp only at h2; omega
    · simp only at h2; omega
theorem settle_end (k : Nat) : ∀ (f n : Nat) (l : List Op), l.length ≤ k → ∀ o, findK ((f : Int) * 2000 + ((settleN k f n l).1 : Nat)) (settleN k f n l).2 = some o → o.c.d = false := by
  induction k with
  | zero =>
    intro f n l hk o h
    have : l = [] := List.length_eq_zero_iff.1 (by omega)
    subst this
    have h2 : o ∈ ([] : List Op) := (find_some h).1
    exact absurd h2 (by simp)
  | succ k ih =>
    intro f n l hk o h
    unfold settleN at h
    split at h
    · rename_i x hx
      split at h
      · refine ih f (n + 1) _ ?_ o h
        have h1 := find_some hx
        have : (delK ((f : Int) * 2000 + (n : Int)) l).length < l.length := by
          unfold delK
          exact List.length_filter_lt_length_iff_exists.2 ⟨x, h1.1, by simp [h1.2]⟩
        omega
      · rename_i hd
        simp only at h
        rw [hx] at h
        have e : x = o := Option.some.inj h
        rw [← e]
        exact not_true' hd
    · rename_i hx
      simp only at h
      rw [hx] at h
      exact absurd h (by simp)
theorem settle_sort : ∀ (k f n : Nat) (l : List Op), SortK keyOp l → SortK keyOp (settleN k f n l).2
  | 0, _, _, _, h => h
  | k + 1, f, n, l, h => by
    unfold settleN
    split
    · split
      · exact settle_sort k f (n + 1) _ (del_sort h)
      · exact h
    · exact h
theorem find_mem : ∀ {l : List Op} {o : Op}, SortK keyOp l → o ∈ l → findK (keyOp o) l = some o
  | [], _, _, h => by simp at h
  | x :: l, o, hs, h => by
    obtain ⟨h1, h2⟩ := List.pairwise_cons.1 hs
    rcases List.mem_cons.1 h with rfl | h
    · simp [findK]
    · have := h1 o h
      have e := find_mem h2 h
      unfold findK at e ⊢
      rw [List.find?_cons_of_neg (by simp; omega)]
      exact e
theorem rep_in {o x : Op} {l : List Op} (hs : SortK keyOp l) : x ∈ repK o l ↔ x = o ∨ (x ∈ l ∧ keyOp x ≠ keyOp o) := by
  rw [rep_eq hs]
  simp only [List.mem_append, List.mem_singleton, lo, hi, List.mem_filter, decide_eq_true_eq]
  constructor
  · rintro ((⟨a, b⟩ | a) | ⟨a, b⟩)
    · exact .inr ⟨a, by omega⟩
    · exact .inl a
    · exact .inr ⟨a, by omega⟩
  · rintro (a | ⟨a, b⟩)
    · exact .inl (.inr a)
    · rcases Int.lt_or_gt_of_ne b with c | c
      · exact .inl (.inl ⟨a, c⟩)
      · exact .inr ⟨a, c⟩
theorem up_of {l : List Op} (h : SortK keyOp l) : upL l := fun i p o hp ho => by
  obtain ⟨a1, a2⟩ := List.getElem?_eq_some_iff.1 hp
  obtain ⟨b1, b2⟩ := List.getElem?_eq_some_iff.1 ho
  have := List.pairwise_iff_getElem.1 h i (i + 1) a1 b1 (by omega)
  rw [a2, b2] at this
  exact this
theorem base_other {b : List Nat} {f g n : Nat} (h : f ≠ g) : baseT (b.set f n) g = baseT b g := by
  unfold baseT
  rw [List.getElem?_set_ne h]
theorem key_same {x : Op} {f : Nat} {q : Int} (hx : okOp x) (h0 : 0 ≤ q) (h1 : q < 2000) : keyOp x = (f : Int) * 2000 + q ↔ x.f = f ∧ x.q = q := by
  obtain ⟨a, b, c⟩ := hx
  unfold keyOp
  constructor
  · intro h; constructor <;> omega
  · rintro ⟨rfl, rfl⟩; rfl

/-! ### A vote that is taken -/
section
variable {t : Tb} {n : Nm} {k : Int} {w : Nat} {s : ByteArray}
structure Taken (t : Tb) (n : Nm) (v : Vt) (L : List Op) (S : Nat × List Op) : Prop where
  hr : rightT t = true
  hv : n.v = t.v
  hm : hasS t.m n.f = true
  hf : n.f < 16
  h0 : 0 ≤ n.q
  h1 : n.q < 1000
  hb : (baseT t.b n.f : Int) ≤ n.q
  hc : n.q < (baseT t.b n.f : Int) + 8
  sort : SortK keyOp t.os
  oks : ∀ o ∈ t.os, okOp o
  inL : ∀ x, x ∈ L ↔ x = ⟨n.f, n.q, v.c⟩ ∨ (x ∈ t.os ∧ keyOp x ≠ (n.f : Int) * 2000 + n.q)
  okL : ∀ x ∈ L, okOp x ∧ x.q < 1000
  sortL : SortK keyOp L
  top : ∀ x ∈ L, x.f = n.f → (baseT t.b n.f : Int) ≤ x.q ∧ x.q < (baseT t.b n.f : Int) + 8
  ge : baseT t.b n.f ≤ S.1
  le : S.1 ≤ 1000
  lt : S.1 ≤ baseT t.b n.f + 8
  inS : ∀ x, x ∈ S.2 ↔ x ∈ L ∧ ¬ (x.f = n.f ∧ x.q < (S.1 : Int))
  gone : ∀ q : Int, (baseT t.b n.f : Int) ≤ q → q < (S.1 : Int) → ∃ o ∈ L, o.f = n.f ∧ o.q = q ∧ o.c.d = true
  stop : ∀ o ∈ S.2, o.f = n.f → o.q = (S.1 : Int) → o.c.d = false
  sortS : SortK keyOp S.2
theorem taken (hm : t.m < 65536) (hb : okV t.b) (h : mayT t n = 0) (v : Vt) : Taken t n v (repK ⟨n.f, n.q, v.c⟩ t.os) (settleN (repK ⟨n.f, n.q, v.c⟩ t.os).length n.f (baseT t.b n.f) (repK ⟨n.f, n.q, v.c⟩ t.os)) := by
  obtain ⟨hr, hv, hme, h0, h1, hb1, hc⟩ := may_zero h
  have hf := has_lt hm hme
  have hs := right_sort hr
  have hall := right_all hr
  have hok : ∀ o ∈ t.os, okOp o := fun o ho => right_ok hm (hall o ho)
  have inL : ∀ x, x ∈ repK ⟨n.f, n.q, v.c⟩ t.os ↔ x = ⟨n.f, n.q, v.c⟩ ∨ (x ∈ t.os ∧ keyOp x ≠ (n.f : Int) * 2000 + n.q) := fun x => rep_in hs
  have sortL : SortK keyOp (repK ⟨n.f, n.q, v.c⟩ t.os) := rep_sort hs
  generalize repK ⟨n.f, n.q, v.c⟩ t.os = L at inL sortL ⊢
  have okL : ∀ x ∈ L, okOp x ∧ x.q < 1000 := fun x hx => by
    rcases (inL x).1 hx with rfl | ⟨hx, _⟩
    · exact ⟨⟨by simp only; omega, by simpa using h0, by simp only; omega⟩, h1⟩
    · exact ⟨hok x hx, (rightO_iff.1 (hall x hx)).2.2.2.1⟩
  have top : ∀ x ∈ L, x.f = n.f → (baseT t.b n.f : Int) ≤ x.q ∧ x.q < (baseT t.b n.f : Int) + 8 := fun x hx e => by
    rcases (inL x).1 hx with rfl | ⟨hx, _⟩
    · exact ⟨hb1, hc⟩
    · have := rightO_iff.1 (hall x hx)
      rw [e] at this
      exact ⟨this.2.1, this.2.2.1⟩
  have ge := settle_ge L.length n.f (baseT t.b n.f) L
  have sin := settle_in L.length n.f (baseT t.b n.f) L
  have sgone := settle_gone L.length n.f (baseT t.b n.f) L
  have send := settle_end L.length n.f (baseT t.b n.f) L (Nat.le_refl _)
  have ssort := settle_sort L.length n.f (baseT t.b n.f) L sortL
  have sle := settle_le L.length n.f (baseT t.b n.f) L (right_base hr hf).1 okL
  generalize settleN L.length n.f (baseT t.b n.f) L = S at ge sin sgone send ssort sle ⊢
  have gone : ∀ q : Int, (baseT t.b n.f : Int) ≤ q → q < (S.1 : Int) → ∃ o ∈ L, o.f = n.f ∧ o.q = q ∧ o.c.d = true := fun q a b => by
    obtain ⟨o, ho, hk, hd⟩ := sgone q a b
    have := (key_same (okL o ho).1 (by omega) (by omega)).1 hk
    exact ⟨o, ho, this.1, this.2, hd⟩
  have inS : ∀ x, x ∈ S.2 ↔ x ∈ L ∧ ¬ (x.f = n.f ∧ x.q < (S.1 : Int)) := fun x => by
    rw [sin x]
    refine and_congr_right fun hx => not_congr ?_
    obtain ⟨⟨a1, a2, a3⟩, a4⟩ := okL x hx
    unfold keyOp
    constructor
    · rintro ⟨b1, b2⟩; constructor <;> omega
    · rintro ⟨b1, b2⟩
      have := top x hx b1
      rw [b1]
      constructor <;> omega
  refine ⟨hr, hv, hme, hf, h0, h1, hb1, hc, hs, hok, inL, okL, sortL, top, ge, sle, ?_, inS, gone, fun o ho e1 e2 => ?_, ssort⟩
  · by_cases e : S.1 = baseT t.b n.f
    · omega
    · obtain ⟨o, ho, hf2, hq, _⟩ := gone ((S.1 : Int) - 1) (by omega) (by omega)
      have := top o ho hf2
      omega
  · have hk : keyOp o = (n.f : Int) * 2000 + (S.1 : Int) := by unfold keyOp; rw [e1, e2]
    have := find_mem ssort ho
    rw [hk] at this
    exact send o this
theorem case_sound (hr : rightT t = true) (f : Nat) (q : Int) : SoundC (caseT t.os f q) := by
  unfold caseT
  split
  · rename_i o ho
    have := rightO_iff.1 (right_all hr o (find_some ho).1)
    exact ⟨soundB_iff.1 this.2.2.2.2.2.1, soundB_iff.1 this.2.2.2.2.2.2⟩
  · exact ⟨List.Pairwise.nil, List.Pairwise.nil⟩
theorem taken_right {v : Vt} {L : List Op} {S : Nat × List Op} (hb : okV t.b) (h : Taken t n v L S) (hc : SoundC v.c) : rightT ⟨t.v, t.m, t.b.set n.f S.1, S.2⟩ = true := by
  have hfb : n.f < t.b.length := by rw [hb.1]; exact h.hf
  refine rightT_iff.2 ⟨(rightT_iff.1 h.hr).1, rightV_iff.2 fun i hi => ?_, rightL_iff.2 ⟨fun o ho => ?_, up_of h.sortS⟩⟩
  · by_cases e : n.f = i
    · subst e
      have := h.le
      have hm := h.hm
      simp only [badV, set_base hfb, hm]
      simp; omega
    · have := rightV_iff.1 (rightT_iff.1 h.hr).2.1 i hi
      simp only [badV, base_other e] at this ⊢
      exact this
  · obtain ⟨hoL, hno⟩ := (h.inS o).1 ho
    have hst := h.stop o ho
    have hlt := h.top o hoL
    have hge := h.ge
    have hq := (h.okL o hoL).2
    have hcase : hasS t.m o.f = true ∧ soundB o.c.es = true ∧ soundB o.c.rs = true ∧ (o.f ≠ n.f → rightO t.m t.b o = true) := by
      rcases (h.inL o).1 hoL with rfl | ⟨hx, _⟩
      · exact ⟨h.hm, soundB_iff.2 hc.1, soundB_iff.2 hc.2, fun e => absurd rfl e⟩
      · have := right_all h.hr o hx
        have h2 := rightO_iff.1 this
        exact ⟨h2.1, h2.2.2.2.2.2.1, h2.2.2.2.2.2.2, fun _ => this⟩
    by_cases e : o.f = n.f
    · rw [e] at hno hlt
      refine rightO_iff.2 ⟨hcase.1, ?_, ?_, hq, ?_, hcase.2.1, hcase.2.2.1⟩
      · rw [e, set_base hfb]; simp only [true_and] at hno; omega
      · rw [e, set_base hfb]; have := hlt rfl; omega
      · rw [e, set_base hfb]
        rintro ⟨a, b⟩
        rw [hst e a] at b
        cases b
    · have := rightO_iff.1 (hcase.2.2.2 e)
      exact rightO_iff.2 (by rw [base_other (Ne.symm e)]; exact this)
theorem take_right (hm : t.m < 65536) (hb : okV t.b) (h : rightT t = true) : rightT (takeT t n k w s).t = true := by
  rcases take_ways t n k w s with ⟨_, e⟩ | ⟨_, hy, _, e⟩
  · rw [e]; exact h
  · rw [e]
    exact taken_right hb (taken hm hb hy _) (takeV_law (case_sound h n.f n.q) t.m n.f k w s).1

/-! ### What is told of it (P8.2, P8.3, P8.4) -/
theorem take_apart (hm : t.m < 65536) (hb : okV t.b) : (takeT t n k w s).t.v = t.v ∧ (takeT t n k w s).t.m = t.m ∧ (∃ x, (takeT t n k w s).t.b = t.b.set n.f x ∧ (n.f < 16 ∨ (takeT t n k w s).t.b = t.b)) ∧
    (takeT t n k w s).t.os.filter (fun o => !(o.f == n.f)) = t.os.filter fun o => !(o.f == n.f) := by
  rcases take_ways t n k w s with ⟨_, e⟩ | ⟨_, hy, _, e⟩
  · rw [e]
    refine ⟨rfl, rfl, ⟨baseT t.b n.f, ?_, .inr rfl⟩, rfl⟩
    show t.b = _
    by_cases hf : n.f < t.b.length
    · rw [set_self hf]
    · rw [List.set_eq_of_length_le (by omega)]
  · rw [e]
    have T := taken hm hb hy (takeV (caseT t.os n.f n.q) t.m n.f k w s)
    refine ⟨rfl, rfl, ⟨_, rfl, .inl T.hf⟩, ?_⟩
    show (settleN _ n.f (baseT t.b n.f) _).2.filter _ = _
    generalize repK ⟨n.f, n.q, (takeV (caseT t.os n.f n.q) t.m n.f k w s).c⟩ t.os = L at T ⊢
    generalize settleN L.length n.f (baseT t.b n.f) L = S at T ⊢
    have key : ∀ {a b : List Op}, SortK keyOp a → SortK keyOp b → (∀ x, x ∈ a ↔ x ∈ b) → a = b := by
      intro a
      induction a with
      | nil => intro b _ _ h; cases b with
        | nil => rfl
        | cons y b => exact absurd ((h y).2 (by simp)) (by simp)
      | cons x a ih => intro b ha hb h; cases b with
        | nil => exact absurd ((h x).1 (by simp)) (by simp)
        | cons y b =>
          obtain ⟨a1, a2⟩ := List.pairwise_cons.1 ha
          obtain ⟨b1, b2⟩ := List.pairwise_cons.1 hb
          have exy : x = y := by
            rcases List.mem_cons.1 ((h x).1 (by simp)) with e | e
            · exact e
            · rcases List.mem_cons.1 ((h y).2 (by simp)) with e' | e'
              · exact e'.symm
              · have := a1 y e'; have := b1 x e; omega
          subst exy
          congr 1
          refine ih a2 b2 fun z => ?_
          have hz := h z
          simp only [List.mem_cons] at hz
          constructor
          · intro q
            rcases hz.1 (.inr q) with e | e
            · subst e; have := a1 z q; omega
            · exact e
          · intro q
            rcases hz.2 (.inr q) with e | e
            · subst e; have := b1 z q; omega
            · exact e
    refine key (List.Pairwise.sublist List.filter_sublist T.sortS) (List.Pairwise.sublist List.filter_sublist T.sort) fun x => ?_
    simp only [List.mem_filter, Bool.not_eq_true', beq_eq_false_iff_ne]
    refine and_congr_left fun hx => ?_
    rw [T.inS, T.inL]
    constructor
    · rintro ⟨rfl | ⟨a, _⟩, _⟩
      · exact absurd rfl hx
      · exact a
    · intro a
      refine ⟨.inr ⟨a, fun e => ?_⟩, fun b => hx b.1⟩
      exact hx ((key_same (T.oks x a) T.h0 (by have := T.h1; omega)).1 e).1
theorem take_base (hm : t.m < 65536) (hb : okV t.b) (i : Nat) : baseT t.b i ≤ baseT (takeT t n k w s).t.b i ∧ baseT (takeT t n k w s).t.b i ≤ baseT t.b i + 8 := by
  rcases take_ways t n k w s with ⟨_, e⟩ | ⟨_, hy, _, e⟩
  · rw [e]; simp [failT]
  · rw [e]
    have T := taken hm hb hy (takeV (caseT t.os n.f n.q) t.m n.f k w s)
    have hfb : n.f < t.b.length := by rw [hb.1]; exact T.hf
    have h1 := T.ge
    have h2 := T.lt
    show baseT t.b i ≤ baseT (t.b.set n.f _) i ∧ baseT (t.b.set n.f _) i ≤ _
    by_cases e2 : n.f = i
    · subst e2; rw [set_base hfb]; exact ⟨h1, h2⟩
    · rw [base_other e2]; omega
/-- What is delivered. -/
def Dlv (t : Tb) (f : Nat) (q : Int) : Prop := q < (baseT t.b f : Int) ∨ ∃ o ∈ t.os, o.f = f ∧ o.q = q ∧ o.c.d = true
theorem take_dlv (hm : t.m < 65536) (hb : okV t.b) (hx : (takeT t n k w s).x = 0) : ((takeT t n k w s).i = true → ¬ Dlv t n.f n.q) ∧ ∀ f q, 0 ≤ q → (Dlv (takeT t n k w s).t f q ↔ Dlv t f q ∨ (f = n.f ∧ q = n.q ∧ (takeT t n k w s).i = true)) := by
  rcases take_ways t n k w s with ⟨h, _⟩ | ⟨_, hy, _, e⟩
  · exact absurd hx h
  rw [e]
  have T := taken hm hb hy (takeV (caseT t.os n.f n.q) t.m n.f k w s)
  have hfb : n.f < t.b.length := by rw [hb.1]; exact T.hf
  obtain ⟨_, hd, hi, _⟩ := takeV_law (case_sound T.hr n.f n.q) t.m n.f k w s
  have hcd : (caseT t.os n.f n.q).d = true ↔ ∃ o ∈ t.os, o.f = n.f ∧ o.q = n.q ∧ o.c.d = true := by
    unfold caseT
    constructor
    · split
      · rename_i o ho
        intro h
        have h2 := (key_same (T.oks o (find_some ho).1) T.h0 (by have := T.h1; omega)).1 (find_some ho).2
        exact ⟨o, (find_some ho).1, h2.1, h2.2, h⟩
      · intro h; cases h
    · rintro ⟨o, ho, e1, e2, e3⟩
      have : findK ((n.f : Int) * 2000 + n.q) t.os = some o := by
        have := find_mem T.sort ho
        unfold keyOp at this
        rw [e1, e2] at this
        exact this
      rw [this]
      exact e3
  have hqb := T.hb
  show ((takeV (caseT t.os n.f n.q) t.m n.f k w s).i = true → _) ∧ ∀ f q, 0 ≤ q → (Dlv ⟨_, _, t.b.set n.f (settleN _ n.f (baseT t.b n.f) _).1, (settleN _ n.f (baseT t.b n.f) _).2⟩ f q ↔ Dlv t f q ∨ (f = n.f ∧ q = n.q ∧ (takeV (caseT t.os n.f n.q) t.m n.f k w s).i = true))
  generalize takeV (caseT t.os n.f n.q) t.m n.f k w s = v at T hd hi ⊢
  generalize repK ⟨n.f, n.q, v.c⟩ t.os = L at T ⊢
  generalize settleN L.length n.f (baseT t.b n.f) L = S at T ⊢
  have hnd : v.i = true → ¬ Dlv t n.f n.q := fun h hD => by
    rcases hD with hD | hD
    · omega
    · have := hi (hcd.2 hD)
      rw [h] at this
      cases this
  refine ⟨hnd, fun f q h0 => ?_⟩
  have hge := T.ge
  have hvd : v.c.d = true ↔ (∃ o ∈ t.os, o.f = n.f ∧ o.q = n.q ∧ o.c.d = true) ∨ v.i = true := by rw [hd, Bool.or_eq_true, hcd]
  by_cases ef : f = n.f
  · subst ef
    have hL : Dlv ⟨t.v, t.m, t.b.set n.f S.1, S.2⟩ n.f q ↔ q < (baseT t.b n.f : Int) ∨ ∃ o ∈ L, o.f = n.f ∧ o.q = q ∧ o.c.d = true := by
      unfold Dlv
      simp only [set_base hfb]
      constructor
      · rintro (h | ⟨o, ho, a⟩)
        · by_cases e : q < (baseT t.b n.f : Int)
          · exact .inl e
          · exact .inr (T.gone q (by omega) h)
        · exact .inr ⟨o, ((T.inS o).1 ho).1, a⟩
      · rintro (h | ⟨o, ho, a⟩)
        · exact .inl (by omega)
        · by_cases e : q < (S.1 : Int)
          · exact .inl e
          · exact .inr ⟨o, (T.inS o).2 ⟨ho, fun b => e (by rw [← a.2.1]; exact b.2)⟩, a⟩
    rw [hL]
    by_cases eq : q = n.q
    · subst eq
      constructor
      · rintro (h | ⟨o, ho, a1, a2, a3⟩)
        · omega
        · rcases (T.inL o).1 ho with rfl | ⟨b, c⟩
          · rcases hvd.1 a3 with h | h
            · exact .inl (.inr h)
            · exact .inr ⟨rfl, rfl, h⟩
          · exact absurd (by unfold keyOp; rw [a1, a2]) c
      · rintro ((h | h) | ⟨_, _, h⟩)
        · omega
        · exact .inr ⟨⟨n.f, n.q, v.c⟩, (T.inL _).2 (.inl rfl), rfl, rfl, hvd.2 (.inl h)⟩
        · exact .inr ⟨⟨n.f, n.q, v.c⟩, (T.inL _).2 (.inl rfl), rfl, rfl, hvd.2 (.inr h)⟩
    · constructor
      · rintro (h | ⟨o, ho, a1, a2, a3⟩)
        · exact .inl (.inl h)
        · rcases (T.inL o).1 ho with rfl | ⟨b, c⟩
          · exact absurd a2.symm eq
          · exact .inl (.inr ⟨o, b, a1, a2, a3⟩)
      · rintro ((h | ⟨o, ho, a1, a2, a3⟩) | ⟨_, h, _⟩)
        · exact .inl h
        · refine .inr ⟨o, (T.inL _).2 (.inr ⟨ho, fun e => eq ?_⟩), a1, a2, a3⟩
          have := ((key_same (T.oks o ho) T.h0 (by have := T.h1; omega)).1 e).2
          omega
        · exact absurd h eq
  · have e1 : Dlv ⟨t.v, t.m, t.b.set n.f S.1, S.2⟩ f q ↔ Dlv t f q := by
      unfold Dlv
      simp only [base_other (Ne.symm ef)]
      refine or_congr Iff.rfl ⟨?_, ?_⟩
      · rintro ⟨o, ho, a1, a2, a3⟩
        rcases (T.inL o).1 ((T.inS o).1 ho).1 with rfl | ⟨b, c⟩
        · exact absurd a1.symm ef
        · exact ⟨o, b, a1, a2, a3⟩
      · rintro ⟨o, ho, a1, a2, a3⟩
        refine ⟨o, (T.inS o).2 ⟨(T.inL o).2 (.inr ⟨ho, fun e => ef ?_⟩), fun b => ef (by rw [← a1, b.1])⟩, a1, a2, a3⟩
        rw [← a1]
        exact ((key_same (T.oks o ho) T.h0 (by have := T.h1; omega)).1 e).1
    rw [e1]
    exact ⟨.inl, fun h => h.elim id fun h => absurd h.1 ef⟩
/-- In a table that may be, the first that is not delivered is the base. -/
theorem dlv_base (h : rightT t = true) (f : Nat) : (∀ q : Int, q < (baseT t.b f : Int) → Dlv t f q) ∧ ¬ Dlv t f (baseT t.b f : Int) := by
  refine ⟨fun q hq => .inl hq, ?_⟩
  rintro (h1 | ⟨o, ho, a1, a2, a3⟩)
  · omega
  · have := rightO_iff.1 (right_all h o ho)
    rw [a1] at this
    exact this.2.2.2.2.1 ⟨a2, a3⟩
theorem few_keys : ∀ {l : List Op} (a : Int) (n : Nat), SortK keyOp l → (∀ o ∈ l, a ≤ keyOp o ∧ keyOp o < a + n) → l.length ≤ n
  | [], _, _, _, _ => Nat.zero_le _
  | x :: l, a, n, hs, h => by
    obtain ⟨h1, h2⟩ := List.pairwise_cons.1 hs
    have hx := h x (by simp)
    have := few_keys (l := l) (a + 1) (n - 1) h2 fun o ho => by
      have := h1 o ho
      have := h o (by simp [ho])
      omega
    simp only [List.length_cons]
    omega
theorem few_open (hm : t.m < 65536) (h : rightT t = true) (f i : Nat) : ((t.os.take i).filter fun o => o.f == f).length ≤ 8 := by
  refine few_keys ((f : Int) * 2000 + (baseT t.b f : Int)) 8 (List.Pairwise.sublist (List.Sublist.trans List.filter_sublist (List.take_sublist _ _)) (right_sort h)) fun o ho => ?_
  obtain ⟨h1, h2⟩ := List.mem_filter.1 ho
  have h2 : o.f = f := by simpa using h2
  have := rightO_iff.1 (right_all h o (List.mem_of_mem_take h1))
  rw [h2] at this
  unfold keyOp
  rw [h2]
  omega

end
/-! ### Tables whose broadcasts may be nil -/
def fxTb : List Fx := [.agg [.no, .no, .no, .no, .no, .no, .no, .no, .no, .no, .no, .no, .no, .no, .no, .no, .no, .no, .k 7]]
def TX (l : List Op) (x : AV) : Prop := x = .fsl 7 (l.map avOp) ∨ (x = .v (.slice none 0 0) ∧ l = [])
theorem TX.facts {l : List Op} {x : AV} (h : TX l x) : x.one = true ∧ x.isBare = true ∧ x.ids = [] ∧ (∀ f, x.mapId f = x) ∧ x.slices = [] ∧ (∀ M, x.lend M = x) ∧ (∀ M, fix1 7 (x.res M) = .fsl 7 (l.map avOp)) ∧ (∀ M, fix1 7 (x.frz M) = .fsl 7 (l.map avOp)) ∧
    (∀ M, (x.res M).one = true) ∧ (∀ M, (x.res M).isBare = true) ∧ (∀ M, (x.res M).ids = []) ∧ (∀ M f, (x.res M).mapId f = x.res M) ∧ (∀ M, (x.res M).slices = []) ∧ (∀ M N, (x.res M).lend N = x.res M) ∧ (∀ M N, (x.res M).frz N = x.res M) ∧ (∀ M N, (x.res M).res N = x.res M) := by
  rcases h with rfl | ⟨rfl, rfl⟩
  · have e : ∀ M, AV.res M (.fsl 7 (l.map avOp)) = .fsl 7 (l.map avOp) := fun M => by rw [AV.res]
    refine ⟨by simp [AV.one], by simp [AV.isBare], by simp [AV.ids], fun _ => by simp [AV.mapId], by simp [AV.slices], fun _ => by simp [AV.lend], fun _ => ?_, fun _ => ?_, ?_, ?_, ?_, ?_, ?_, ?_, ?_, ?_⟩
    · cases l <;> simp [fix1, AV.res]
    · cases l <;> simp [fix1, AV.frz]
    all_goals simp [e, AV.one, AV.isBare, AV.ids, AV.mapId, AV.slices, AV.lend, AV.frz]
  · have e : ∀ M, AV.res M (.v (.slice none 0 0)) = .fsl 0 [] := fun M => by first | rfl | (rw [AV.res]; done) | (rw [AV.res]; rfl)
    have e2 : ∀ M, AV.frz M (.v (.slice none 0 0)) = .fsl 0 [] := fun M => by first | rfl | (rw [AV.frz]; done) | (rw [AV.frz]; rfl)
    have e3 : ∀ M, AV.res M (.fsl 0 []) = .fsl 0 [] := fun M => by rw [AV.res]
    refine ⟨by simp [AV.one, Value.oneCell'], by simp [AV.isBare], by simp [AV.ids], fun _ => by simp [AV.mapId], by simp [AV.slices], fun _ => by simp [AV.lend], fun M => by rw [e]; rfl, fun M => by rw [e2]; rfl, ?_, ?_, ?_, ?_, ?_, ?_, ?_, ?_⟩
    all_goals simp [e, e3, AV.one, AV.isBare, AV.ids, AV.mapId, AV.slices, AV.lend, AV.frz]
end Go.Proofs.Ytkbgndebfcjojaa.Am
