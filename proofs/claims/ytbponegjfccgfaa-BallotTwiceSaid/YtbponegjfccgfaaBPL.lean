/-
  PLAIN LAWS OF A BALLOT: who votes, and that no two changes are wanted by enough. No code is walked here.
-/
import Derived.Test.YtbponegjfccgfaaB11
namespace Go.Proofs.Ytbponegjfccgfaa.Am
set_option linter.unusedSimpArgs false
set_option linter.unusedVariables false
open Go Go.Proofs

theorem putC_zero {v : Int} {m : Nat} {l : List Ct} {c : Ct} : (putC v m l c).2 = 0 ↔ boxB v m l = true ∧ hasS m c.who.toNat = true ∧ isK' keyCt c.who l = false ∧ (applyV v m c.add c.id.toNat).2 = 0 := by
  unfold putC
  split
  · simp [*]
  · split
    · simp [*]
    · split
      · simp [*]
      · split
        · rename_i h; simp [h]
        · simp_all
theorem putC_yes {v : Int} {m : Nat} {l : List Ct} {c : Ct} (h : (putC v m l c).2 = 0) : (putC v m l c).1 = insK keyCt c l := by
  obtain ⟨h1, h2, h3, h4⟩ := putC_zero.1 h
  unfold putC; rw [if_neg (by simp [h1]), if_neg (by simp [h2]), if_neg (by simp [h3]), if_neg (by simp [h4])]
theorem putC_not {v : Int} {m : Nat} {l : List Ct} {c : Ct} (h : (putC v m l c).2 ≠ 0) : (putC v m l c).1 = l := by
  unfold putC at h ⊢
  split
  · rfl
  · split
    · rfl
    · split
      · rfl
      · split
        · rfl
        · simp_all
theorem sort_nextC {α : Type} {key : α → Int} {l : List α} (h : SortK key l) {i j : Nat} {p m : α} (hij : i < j) (hp : l[i]? = some p) (hm : l[j]? = some m) : key p < key m := by
  obtain ⟨hi, rfl⟩ := List.getElem?_eq_some_iff.1 hp
  obtain ⟨hj, rfl⟩ := List.getElem?_eq_some_iff.1 hm
  exact List.pairwise_iff_getElem.1 h i j hi hj hij
theorem box_mem {v : Int} {m : Nat} {l : List Ct} (h : boxB v m l = true) {c : Ct} (hc : c ∈ l) : (applyV v m c.add c.id.toNat).2 = 0 ∧ hasS m c.who.toNat = true := by
  obtain ⟨k, hk⟩ := List.mem_iff_getElem?.1 hc
  have := (box_iff.1 h).2 k c hk
  exact ⟨this.1, this.2.1⟩
theorem box_put {v : Int} {m : Nat} {l : List Ct} {c : Ct} (h : (putC v m l c).2 = 0) : boxB v m (putC v m l c).1 = true := by
  rw [putC_yes h]
  obtain ⟨h1, h2, h3, h4⟩ := putC_zero.1 h
  have hs := insK_sort (x := c) (cts_sort (box_iff.1 h1).2) h3
  refine box_yes ⟨(box_iff.1 h1).1, fun k x hk => ?_⟩
  have hm : (applyV v m x.add x.id.toNat).2 = 0 ∧ hasS m x.who.toNat = true := by
    rcases mem_insK.1 (List.mem_of_getElem? hk) with rfl | hx
    · exact ⟨h4, h2⟩
    · exact box_mem h1 hx
  exact ⟨hm.1, hm.2, fun h0 p hp => sort_nextC hs (by omega) hp hk⟩
/-- A box as it may be: right, or empty. -/
def InvB (v : Int) (m : Nat) (l : List Ct) : Prop := boxB v m l = true ∨ l = []
theorem inv_put {v : Int} {m : Nat} {l : List Ct} (h : InvB v m l) (c : Ct) : InvB v m (putC v m l c).1 := by
  by_cases hz : (putC v m l c).2 = 0
  · exact .inl (box_put hz)
  · rw [putC_not hz]; exact h

/-! ### Votes -/
theorem has_forS' : ∀ (l : List Ct) (a : Bool) (d : Int) (z i : Nat), hasS (l.foldl (fun s x => if x.add = a ∧ x.id = d then withS s x.who.toNat else s) z) i = true ↔ hasS z i = true ∨ (i < 16 ∧ ∃ c ∈ l, c.add = a ∧ c.id = d ∧ c.who.toNat = i)
  | [], a, d, z, i => by simp
  | x :: l, a, d, z, i => by
    simp only [List.foldl_cons]
    rw [has_forS' l a d]
    split
    · rename_i hx
      rw [has_with]
      simp only [Bool.or_eq_true, Bool.and_eq_true, decide_eq_true_eq, List.mem_cons]
      constructor
      · rintro ((h | ⟨rfl, h16⟩) | ⟨h16, c, hc, h⟩)
        · exact .inl h
        · exact .inr ⟨h16, x, .inl rfl, hx.1, hx.2, rfl⟩
        · exact .inr ⟨h16, c, .inr hc, h⟩
      · rintro (h | ⟨h16, c, rfl | hc, h⟩)
        · exact .inl (.inl h)
        · exact .inl (.inr ⟨h.2.2, by omega⟩)
        · exact .inr ⟨h16, c, hc, h⟩
    · rename_i hx
      simp only [List.mem_cons]
      constructor
      · rintro (h | ⟨h16, c, hc, h⟩)
        · exact .inl h
        · exact .inr ⟨h16, c, .inr hc, h⟩
      · rintro (h | ⟨h16, c, rfl | hc, h⟩)
        · exact .inl h
        · exact absurd ⟨h.1, h.2.1⟩ hx
        · exact .inr ⟨h16, c, hc, h⟩
theorem has_forS {l : List Ct} {a : Bool} {d : Int} {i : Nat} : hasS (forS l a d) i = true ↔ i < 16 ∧ ∃ c ∈ l, c.add = a ∧ c.id = d ∧ c.who.toNat = i := by
  unfold forS; rw [has_forS']; simp [has_zero]
theorem cnt_two {A B M : Nat} : ∀ k, (∀ i, i < k → hasS A i = true → hasS M i = true ∧ hasS B i = false) → (∀ i, i < k → hasS B i = true → hasS M i = true) → cntTo A k + cntTo B k ≤ cntTo M k
  | 0, _, _ => by simp [cntTo]
  | k + 1, h1, h2 => by
    have ih := cnt_two k (fun i hi => h1 i (by omega)) (fun i hi => h2 i (by omega))
    have a1 := h1 k (by omega)
    have a2 := h2 k (by omega)
    simp only [cntTo]
    cases hA : hasS A k <;> cases hB : hasS B k <;> cases hM : hasS M k <;> simp_all <;> omega
theorem cnt_or {A B C : Nat} : ∀ k, (∀ i, i < k → hasS A i = true → hasS B i = true ∨ hasS C i = true) → cntTo A k ≤ cntTo B k + cntTo C k
  | 0, _ => by simp [cntTo]
  | k + 1, h => by
    have ih := cnt_or k fun i hi => h i (by omega)
    have a1 := h k (by omega)
    simp only [cntTo]
    cases hA : hasS A k <;> cases hB : hasS B k <;> cases hC : hasS C k <;> simp_all <;> omega
theorem who_one {l : List Ct} (h : SortK keyCt l) {c e : Ct} (hc : c ∈ l) (he : e ∈ l) (hw : c.who = e.who) : c = e := by
  obtain ⟨i, hi⟩ := List.mem_iff_getElem?.1 hc
  obtain ⟨j, hj⟩ := List.mem_iff_getElem?.1 he
  rcases Nat.lt_trichotomy i j with h1 | h1 | h1
  · have := sort_nextC h h1 hi hj; unfold keyCt at this; omega
  · subst h1; rw [hi] at hj; cases hj; rfl
  · have := sort_nextC h h1 hj hi; unfold keyCt at this; omega
/-- Who want unlike things are unlike members of the view. -/
theorem for_two {v : Int} {m : Nat} {l : List Ct} (hb : boxB v m l = true) (hok : ∀ y ∈ l, okCt y) {a b : Bool} {d e : Int} (hne : ¬ (a = b ∧ d = e)) (i : Nat) (h : hasS (forS l a d) i = true) : hasS m i = true ∧ hasS (forS l b e) i = false := by
  obtain ⟨h16, c, hc, h1, h2, h3⟩ := has_forS.1 h
  refine ⟨by rw [← h3]; exact (box_mem hb hc).2, ?_⟩
  cases hf : hasS (forS l b e) i
  · rfl
  · obtain ⟨_, c', hc', h1', h2', h3'⟩ := has_forS.1 hf
    have : c = c' := who_one (cts_sort (box_iff.1 hb).2) hc hc' (by have := (hok c hc).1; have := (hok c' hc').1; omega)
    subst this
    exact absurd ⟨h1.symm.trans h1', h2.symm.trans h2'⟩ hne
theorem for_mem {v : Int} {m : Nat} {l : List Ct} (hb : boxB v m l = true) {a : Bool} {d : Int} (i : Nat) (h : hasS (forS l a d) i = true) : hasS m i = true := by
  obtain ⟨_, c, hc, _, _, h3⟩ := has_forS.1 h
  rw [← h3]; exact (box_mem hb hc).2
theorem echoes_more {n : Nat} (h1 : 1 ≤ n) (h2 : n ≤ 16) : (n : Int) + faultyS n < 2 * echoesS n := by
  have h := held_small h1 h2
  unfold echoesS
  rw [h]
  omega
theorem size_pos {m : Nat} (hm : m < 65536) (h0 : m ≠ 0) : 1 ≤ sizeS m := by
  rcases Nat.eq_zero_or_pos (sizeS m) with h | h
  · refine absurd (set_ext hm (by omega : 0 < 65536) fun i hi => ?_) h0
    rw [has_zero]
    cases hh : hasS m i
    · rfl
    · have : i ∈ listS m := (mem_list hm).2 hh
      unfold sizeS at h
      rw [List.eq_nil_of_length_eq_zero h] at this
      simp at this
  · exact h
/-- No two changes are wanted by enough. -/
theorem good_one {v : Int} {m : Nat} {l : List Ct} (hm : m < 65536) (hb : boxB v m l = true) (hok : ∀ y ∈ l, okCt y) {c e : Ct} (h1 : goodC v m l (echoesS (sizeS m)) c = true) (h2 : goodC v m l (echoesS (sizeS m)) e = true) : c.add = e.add ∧ c.id = e.id := by
  by_cases hne : c.add = e.add ∧ c.id = e.id
  · exact hne
  · unfold goodC forC at h1 h2
    rw [if_pos hb, decide_eq_true_eq] at h1 h2
    have hs := cnt_two (A := forS l c.add c.id) (B := forS l e.add e.id) (M := m) 16 (fun i _ h => for_two hb hok hne i h) (fun i _ h => for_mem hb i h)
    rw [← size_cnt, ← size_cnt, ← size_cnt] at hs
    have h0 := (right_v.1 (box_iff.1 hb).1).2.2
    have := echoes_more (size_pos hm h0) (size_le m)
    have := faulty_range ((sizeS m : Nat) : Int)
    omega
theorem chosen_some {v : Int} {m : Nat} {l : List Ct} (hm : m < 65536) (hi : InvB v m l) (hok : ∀ y ∈ l, okCt y) (h : (chosenC v m l).2 = true) :
    boxB v m l = true ∧ ∃ c ∈ l, chosenC v m l = ((c.add, c.id), true) ∧ goodC v m l (echoesS (sizeS m)) c = true := by
  unfold chosenC at h ⊢
  cases hf : l.find? (goodC v m l (echoesS (sizeS m))) with
  | none => rw [hf] at h; cases h
  | some c =>
    have hc := List.mem_of_find?_eq_some hf
    have hg := List.find?_some hf
    rcases hi with hb | rfl
    · exact ⟨hb, c, hc, rfl, hg⟩
    · simp at hc
theorem chosen_is {v : Int} {m : Nat} {l : List Ct} (hm : m < 65536) (hb : boxB v m l = true) (hok : ∀ y ∈ l, okCt y) {c : Ct} (hc : c ∈ l) (hg : goodC v m l (echoesS (sizeS m)) c = true) : chosenC v m l = ((c.add, c.id), true) := by
  unfold chosenC
  cases hf : l.find? (goodC v m l (echoesS (sizeS m))) with
  | none => exact absurd hg (by simpa using List.find?_eq_none.1 hf c hc)
  | some e =>
    have := good_one hm hb hok (List.find?_some hf) hg
    simp [this.1, this.2]
/-- What is chosen stays. -/
theorem chosen_stays {v : Int} {m : Nat} {l : List Ct} (hm : m < 65536) (hi : InvB v m l) (hok : ∀ y ∈ l, okCt y) {x : Ct} (hx : okCt x) (h : (chosenC v m l).2 = true) : chosenC v m (putC v m l x).1 = chosenC v m l := by
  by_cases hz : (putC v m l x).2 = 0
  · obtain ⟨hb, c, hc, e, hg⟩ := chosen_some hm hi hok h
    rw [e]
    have hb2 := box_put hz
    rw [putC_yes hz] at hb2 ⊢
    have hok2 : ∀ y ∈ insK keyCt x l, okCt y := fun y hy => by
      rcases mem_insK.1 hy with rfl | hy
      · exact hx
      · exact hok y hy
    refine chosen_is hm hb2 hok2 (mem_insK.2 (.inr hc)) ?_
    unfold goodC forC at hg ⊢
    rw [if_pos hb, decide_eq_true_eq] at hg
    rw [if_pos hb2, decide_eq_true_eq]
    have := (cnt_sub2 (a := forS l c.add c.id) (b := forS (insK keyCt x l) c.add c.id) 16 fun i _ hi => by
      obtain ⟨h16, y, hy, hh⟩ := has_forS.1 hi
      exact has_forS.2 ⟨h16, y, mem_insK.2 (.inr hy), hh⟩).1
    rw [← size_cnt, ← size_cnt] at this
    omega
  · rw [putC_not hz]
end Go.Proofs.Ytbponegjfccgfaa.Am
