/-
  PLAIN LAWS OF A FLUSH: in whatever order marks are put. No code is walked here.
-/
import Derived.Test.YtbponegjfccgfaaFL1
namespace Go.Proofs.Ytbponegjfccgfaa.Am
set_option linter.unusedSimpArgs false
set_option linter.unusedVariables false
open Go Go.Proofs

/-- A flush that came of taking the marks tk, one by one. -/
def GoodF (s : Nat) (l tk : List Mk) : Prop := SortK keyMk l ∧ l.Perm tk ∧ (∀ m ∈ l, hasS s m.who.toNat = true ∧ FitsV s m.past ∧ okMk m) ∧ (l ≠ [] → s ≠ 0)
theorem good_nil (s : Nat) : GoodF s [] [] := ⟨sort_nil, .refl _, fun m hm => by simp at hm, fun h => absurd rfl h⟩
theorem sort_next {α : Type} {key : α → Int} {l : List α} (h : SortK key l) {i j : Nat} {p m : α} (hij : i < j) (hp : l[i]? = some p) (hm : l[j]? = some m) : key p < key m := by
  obtain ⟨hi, rfl⟩ := List.getElem?_eq_some_iff.1 hp
  obtain ⟨hj, rfl⟩ := List.getElem?_eq_some_iff.1 hm
  exact List.pairwise_iff_getElem.1 h i j hi hj hij
theorem good_right {s : Nat} {l tk : List Mk} (h : GoodF s l tk) (hs : s ≠ 0) : rightB s l = true := by
  refine right_yes ⟨hs, fun i m hm => ?_⟩
  have h1 := h.2.2.1 m (List.mem_of_getElem? hm)
  exact ⟨h1.1, h1.2.1, fun h0 p hp => sort_next h.1 (by omega) hp hm⟩
theorem ins_perm (m : Mk) (l : List Mk) : (insK keyMk m l).Perm (m :: l) := by
  unfold insK
  have h : (l.take (posK keyMk (keyMk m) l) ++ m :: l.drop (posK keyMk (keyMk m) l)).Perm (m :: (l.take (posK keyMk (keyMk m) l) ++ l.drop (posK keyMk (keyMk m) l))) := List.perm_middle
  rw [List.take_append_drop] at h
  simpa using h
theorem good_put {s : Nat} {l tk : List Mk} {m : Mk} (h : GoodF s l tk) (hm : okMk m) :
    ((putF s l m).2 = 0 ∧ GoodF s (putF s l m).1 (tk ++ [m])) ∨ ((putF s l m).2 ≠ 0 ∧ (putF s l m).1 = l) := by
  by_cases hz : (putF s l m).2 = 0
  · refine .inl ⟨hz, ?_⟩
    rw [putF_yes hz]
    obtain ⟨h1, h2, h3, h4⟩ := putF_zero.1 hz
    refine ⟨insK_sort h.1 h3, ?_, fun x hx => ?_, fun _ => (right_iff.1 h1).1⟩
    · exact (ins_perm m l).trans ((List.Perm.cons m h.2.1).trans (List.perm_append_singleton m tk).symm)
    · rcases mem_insK.1 hx with rfl | hx
      · exact ⟨h2, fits_iff.1 h4, hm⟩
      · exact h.2.2.1 x hx
  · exact .inr ⟨hz, putF_not hz⟩
theorem good_len {s : Nat} {l tk : List Mk} (h : GoodF s l tk) : l.length = tk.length := h.2.1.length_eq
theorem good_mem {s : Nat} {l tk : List Mk} (h : GoodF s l tk) {m : Mk} : m ∈ l ↔ m ∈ tk := h.2.1.mem_iff
theorem good_ok {s : Nat} {l tk : List Mk} (h : GoodF s l tk) : ∀ m ∈ l, okMk m := fun m hm => (h.2.2.1 m hm).2.2
theorem good_oks {s : Nat} {l tk : List Mk} (h : GoodF s l tk) : ∀ m ∈ tk, okMk m := fun m hm => good_ok h m ((good_mem h).2 hm)
theorem good_same {s : Nat} {l l' tk tk' : List Mk} (h : GoodF s l tk) (h' : GoodF s l' tk') (hp : tk'.Perm tk) : l' = l :=
  sort_ext h'.1 h.1 fun x => by rw [good_mem h', good_mem h]; exact hp.mem_iff
theorem good_apart {s : Nat} {l tk tk' : List Mk} (h : GoodF s l tk) (hp : tk'.Perm tk) : tk'.Pairwise fun a b => keyMk a ≠ keyMk b := by
  have h1 : l.Pairwise fun a b => keyMk a ≠ keyMk b := h.1.imp fun hab => by omega
  exact (h.2.1.trans hp.symm).pairwise h1 fun hab => fun e => hab e.symm
/-- A mark that was taken once is taken again by a flush that has not had it. -/
theorem good_fresh {s : Nat} {l l' tk tk' : List Mk} {i : Nat} {m : Mk} (h : GoodF s l tk) (h' : GoodF s l' (tk'.take i)) (hp : tk'.Perm tk) (hi : tk'[i]? = some m) : (putF s l' m).2 = 0 := by
  have hml : m ∈ l := (good_mem h).2 (hp.mem_iff.1 (List.mem_of_getElem? hi))
  obtain ⟨h1, h2, h3⟩ := h.2.2.1 m hml
  have hs : s ≠ 0 := h.2.2.2 fun e => by simp [e] at hml
  refine putF_zero.2 ⟨good_right h' hs, h1, isK_false.2 fun x hx => ?_, fits_yes h2⟩
  have hx2 := (good_mem h').1 hx
  have hap := good_apart h hp
  obtain ⟨j, hj⟩ := List.mem_iff_getElem?.1 hx2
  rw [List.getElem?_take] at hj
  split at hj
  · obtain ⟨hi', rfl⟩ := List.getElem?_eq_some_iff.1 hi
    obtain ⟨hj', rfl⟩ := List.getElem?_eq_some_iff.1 hj
    exact List.pairwise_iff_getElem.1 hap j i hj' hi' (by omega)
  · cases hj

/-! ### A list, turned -/
def rotL (a : Nat) (l : List Mk) : List Mk := l.drop (a % l.length) ++ l.take (a % l.length)
theorem rot_perm (a : Nat) (l : List Mk) : (rotL a l).Perm l := by
  unfold rotL
  refine List.perm_append_comm.trans ?_
  rw [List.take_append_drop]
theorem rot_get {a i : Nat} {l : List Mk} (hi : i < l.length) : (rotL a l)[i]? = l[(i + a) % l.length]? := by
  have hk : a % l.length < l.length := Nat.mod_lt _ (by omega)
  have e : (i + a) % l.length = (i + a % l.length) % l.length := by rw [Nat.add_mod, Nat.mod_eq_of_lt hi]
  unfold rotL
  rw [e]
  generalize a % l.length = k at *
  by_cases h : i + k < l.length
  · rw [Nat.mod_eq_of_lt h, List.getElem?_append_left (by simp; omega), List.getElem?_drop]
    congr 1; omega
  · have e2 : (i + k) % l.length = i + k - l.length := by
      rw [Nat.mod_eq_sub_mod (by omega), Nat.mod_eq_of_lt (by omega)]
    rw [e2, List.getElem?_append_right (by simp; omega), List.getElem?_take, if_pos (by simp; omega)]
    congr 1
    simp; omega

/-! ### What all are to know has all that any mark has -/
theorem bump_length (m : Mk) (h : okMk m) : (bumpV m).length = 16 := by simp [bumpV, h.2.2.1]
theorem foldT_len : ∀ {l : List Mk} {z : List Nat}, z.length = 16 → (∀ m ∈ l, okMk m) → (l.foldl (fun v m => joinV v (bumpV m)) z).length = 16
  | [], z, hz, _ => hz
  | m :: l, z, hz, h => foldT_len (l := l) (z := joinV z (bumpV m)) (by rw [joinV_length (by rw [hz, bump_length m (h m (by simp))])]; exact hz) fun x hx => h x (by simp [hx])
theorem foldT_up : ∀ {l : List Mk} {z : List Nat}, z.length = 16 → (∀ m ∈ l, okMk m) → belowV z (l.foldl (fun v m => joinV v (bumpV m)) z) = true ∧ ∀ m ∈ l, belowV (bumpV m) (l.foldl (fun v m => joinV v (bumpV m)) z) = true
  | [], z, hz, _ => ⟨below_self _, fun m hm => by simp at hm⟩
  | m :: l, z, hz, h => by
    have hb := bump_length m (h m (by simp))
    have hj : (joinV z (bumpV m)).length = 16 := by rw [joinV_length (by rw [hz, hb])]; exact hz
    obtain ⟨h1, h2⟩ := foldT_up (l := l) (z := joinV z (bumpV m)) hj fun x hx => h x (by simp [hx])
    have hlen := foldT_len (l := l) (z := joinV z (bumpV m)) hj fun x hx => h x (by simp [hx])
    simp only [List.foldl_cons]
    refine ⟨below_trans (by omega) (by omega) (below_left z (bumpV m)) h1, fun x hx => ?_⟩
    rcases List.mem_cons.1 hx with rfl | hx
    · exact below_trans (by omega) (by omega) (below_right z _) h1
    · exact h2 x hx
theorem below_at : ∀ {a b : List Nat} {i x : Nat}, a.length = b.length → belowV a b = true → a[i]? = some x → ∃ y, b[i]? = some y ∧ x ≤ y
  | [], _, i, x, _, _, h => by simp at h
  | _ :: _, [], _, _, h, _, _ => by simp at h
  | p :: a, q :: b, 0, x, _, h, hx => by
    simp only [List.getElem?_cons_zero, Option.some.injEq] at hx
    simp only [belowV, Bool.and_eq_true, decide_eq_true_eq] at h
    exact ⟨q, rfl, by omega⟩
  | p :: a, q :: b, i + 1, x, hl, h, hx => by
    simp only [List.length_cons] at hl
    simp only [belowV, Bool.and_eq_true] at h
    simp only [List.getElem?_cons_succ] at hx ⊢
    exact below_at (by omega) h.2 hx
/-- What a mark knows is below, and its own flush is counted. -/
theorem foldT_mark {s : Nat} (hs : s < 65536) {l : List Mk} {m : Mk} (hok : ∀ m ∈ l, okMk m) (hm : m ∈ l) (hh : hasS s m.who.toNat = true) :
    belowV m.past (foldT l) = true ∧ ∃ x y, m.past[m.who.toNat]? = some x ∧ (foldT l)[m.who.toNat]? = some y ∧ x < y := by
  have hmo := hok m hm
  have hpl := hmo.2.2.1
  have h1 := (foldT_up zV_length hok).2 m hm
  have hlen : (foldT l).length = 16 := foldT_len zV_length hok
  have hbl := bump_length m hmo
  have hw := has_lt hs hh
  obtain ⟨x, hx⟩ : ∃ x, m.past[m.who.toNat]? = some x := ⟨_, List.getElem?_eq_getElem (by omega)⟩
  have hb : bumpV m = m.past.set m.who.toNat (x + 1) := by simp only [bumpV, List.getD_eq_getElem?_getD, hx, Option.getD_some]
  have hbx : (bumpV m)[m.who.toNat]? = some (x + 1) := by rw [hb, List.getElem?_set_self (by omega)]
  obtain ⟨y, hy, hxy⟩ := below_at (by show (bumpV m).length = (foldT l).length; omega) h1 hbx
  refine ⟨below_trans (b := bumpV m) (by omega) (by show (bumpV m).length = (foldT l).length; omega) ?_ h1, x, y, hx, hy, by omega⟩
  refine belowV_yes fun i p q hp hq => ?_
  rw [hb, List.getElem?_set] at hq
  split at hq
  · rename_i e
    split at hq
    · subst e; rw [hx] at hp; cases hp; cases hq; omega
    · cases hq
  · rw [hp] at hq; cases hq; omega

theorem target_good {s : Nat} {l tk : List Mk} (h : GoodF s l tk) (ht : (targetF s l).2 = true) : (targetF s l).1 = foldT l := by
  unfold targetF at ht ⊢
  split
  · rfl
  · rename_i hh; rw [if_neg hh] at ht; cases ht
theorem target_none {s : Nat} {l : List Mk} (ht : (targetF s l).2 = false) : (targetF s l).1 = zV := by
  unfold targetF at ht ⊢
  split
  · rename_i hh; rw [if_pos hh] at ht; cases ht
  · rfl

/-! ### Who has flushed -/
def HadF (s h : Nat) (l : List Mk) : Prop := h < 65536 ∧ ∀ i, hasS h i = true ↔ ∃ m ∈ l, m.who.toNat = i
theorem had_nil (s : Nat) : HadF s 0 [] := ⟨by omega, fun i => by simp [has_zero]⟩
theorem had_put {s h : Nat} {l : List Mk} {m : Mk} (hs : s < 65536) (h1 : HadF s h l) (hz : (putF s l m).2 = 0) : HadF s (withS h m.who.toNat) (putF s l m).1 := by
  rw [putF_yes hz]
  have hh := (putF_zero.1 hz).2.1
  have hw := has_lt hs hh
  refine ⟨withS_lt h1.1 _, fun i => ?_⟩
  rw [has_with]
  simp only [Bool.or_eq_true, Bool.and_eq_true, decide_eq_true_eq, mem_insK, h1.2]
  constructor
  · rintro (⟨x, hx, rfl⟩ | ⟨rfl, _⟩)
    · exact ⟨x, .inr hx, rfl⟩
    · exact ⟨m, .inl rfl, rfl⟩
  · rintro ⟨x, rfl | hx, rfl⟩
    · exact .inr ⟨rfl, hw⟩
    · exact .inl ⟨x, hx, rfl⟩
theorem list_sort (m : Nat) : SortK (fun (n : Nat) => (n : Int)) (listS m) := by
  unfold listS SortK
  refine List.Pairwise.filter _ ?_
  have : (List.range 16).Pairwise fun a b => a < b := List.pairwise_lt_range
  exact this.imp (S := fun a b : Nat => (a : Int) < (b : Int)) fun h => by omega
theorem had_len {s h : Nat} {l tk : List Mk} (hs : s < 65536) (hg : GoodF s l tk) (h1 : HadF s h l) : l.length = sizeS h := by
  have e : l.map (fun m => m.who.toNat) = listS h := by
    refine sort_ext (key := fun (n : Nat) => (n : Int)) ?_ (list_sort h) fun x => ?_
    · have hso : SortK keyMk l := hg.1
      unfold SortK at hso ⊢
      rw [List.pairwise_map]
      refine hso.imp_of_mem fun {a b} ha hb hab => ?_
      have h0 := (hg.2.2.1 a ha).2.2.1
      have h2 := (hg.2.2.1 b hb).2.2.1
      have hab' : a.who < b.who := hab
      show ((a.who.toNat : Nat) : Int) < ((b.who.toNat : Nat) : Int)
      omega
    · rw [mem_list h1.1, h1.2, List.mem_map]
  have := congrArg List.length e
  rw [List.length_map] at this
  exact this
theorem cnt_sub {a b : Nat} : ∀ k, (∀ i, i < k → hasS a i = true → hasS b i = true) → cntTo a k ≤ cntTo b k ∧ (cntTo b k ≤ cntTo a k → ∀ i, i < k → hasS a i = hasS b i)
  | 0, _ => ⟨by simp [cntTo], fun _ i hi => by omega⟩
  | k + 1, h => by
    obtain ⟨h1, h2⟩ := cnt_sub k fun i hi => h i (by omega)
    have hk := h k (by omega)
    simp only [cntTo]
    cases ha : hasS a k <;> cases hb : hasS b k
    · refine ⟨by simp; omega, fun hc i hi => ?_⟩
      simp only [Bool.false_eq_true, if_false] at hc
      by_cases e : i = k
      · subst e; rw [ha, hb]
      · exact h2 (by omega) i (by omega)
    · refine ⟨by simp; omega, fun hc i hi => ?_⟩
      simp at hc
      omega
    · exact absurd (hk ha) (by simp [hb])
    · refine ⟨by simp; omega, fun hc i hi => ?_⟩
      simp only [if_true] at hc
      by_cases e : i = k
      · subst e; rw [ha, hb]
      · exact h2 (by omega) i (by omega)
/-- What all are to know is told just if all have flushed. -/
theorem had_all {s h : Nat} {l tk : List Mk} (hs : s < 65536) (hg : GoodF s l tk) (h1 : HadF s h l) : (targetF s l).2 = decide (h = s ∧ s ≠ 0) := by
  have hlen := had_len hs hg h1
  unfold targetF
  split
  · rename_i hh
    have hr := right_iff.1 hh.1
    have hsub : ∀ i, i < 16 → hasS h i = true → hasS s i = true := fun i _ hi => by
      obtain ⟨m, hm, rfl⟩ := (h1.2 i).1 hi
      exact (hg.2.2.1 m hm).1
    have hle := hh.2
    rw [hlen, size_cnt, size_cnt] at hle
    have he := (cnt_sub 16 hsub).2 hle
    exact (decide_eq_true ⟨set_ext h1.1 hs he, hr.1⟩).symm
  · rename_i hh
    refine (decide_eq_false fun hc => hh ⟨good_right hg hc.2, ?_⟩).symm
    rw [hlen, hc.1]
    exact Nat.le_refl _
/-- Who has flushed once is told so. -/
theorem had_again {s h : Nat} {l tk : List Mk} {m : Mk} (hg : GoodF s l tk) (h1 : HadF s h l) (hm : okMk m) (hh : hasS h m.who.toNat = true) : putF s l m = (l, 9) := by
  obtain ⟨x, hx, he⟩ := (h1.2 _).1 hh
  have hxg := hg.2.2.1 x hx
  have hs : s ≠ 0 := hg.2.2.2 fun e => by simp [e] at hx
  have hw : x.who = m.who := by have h2 := hxg.2.2.1; have h3 := hm.1; omega
  have hi : isK' keyMk m.who l = true := by
    cases hc : isK' keyMk m.who l
    · exact absurd hw (isK_false.1 hc x hx)
    · rfl
  have h4 : hasS s m.who.toNat = true := by rw [← hw]; exact hxg.1
  unfold putF
  simp [good_right hg hs, h4, hi]
end Go.Proofs.Ytbponegjfccgfaa.Am
