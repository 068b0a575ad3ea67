/-
  LISTS IN THE ORDER OF A KEY, plainly: no program in sight.
-/
import Derived.Test.YtbponegjfccgfaaAmJ
namespace Go.Proofs.Ytbponegjfccgfaa.Am
set_option linter.unusedSimpArgs false
set_option linter.unusedVariables false
open Go

section
variable {α : Type} (key : α → Int)
/-- Where a key stands. -/
def posK (t : Int) : List α → Nat
  | [] => 0
  | x :: l => if key x < t then posK t l + 1 else 0
def isK' (t : Int) (l : List α) : Bool := l.any fun x => key x == t
def insK (x : α) (l : List α) : List α := l.take (posK key (key x) l) ++ [x] ++ l.drop (posK key (key x) l)
def SortK (l : List α) : Prop := l.Pairwise fun a b => key a < key b

variable {key}
theorem posK_le (t : Int) : ∀ l : List α, posK key t l ≤ l.length
  | [] => Nat.le_refl _
  | x :: l => by have := posK_le t l; simp only [posK, List.length_cons]; split <;> omega
theorem posK_lt {t : Int} : ∀ {l : List α} {i : Nat} {x : α}, i < posK key t l → l[i]? = some x → key x < t
  | [], i, x, h, hx => by simp at hx
  | y :: l, i, x, h, hx => by
    simp only [posK] at h
    split at h
    · rename_i hy
      cases i with
      | zero => simp at hx; subst hx; exact hy
      | succ i => simp at hx; exact posK_lt (by omega) hx
    · omega
theorem posK_ge {t : Int} : ∀ {l : List α} {x : α}, SortK key l → ∀ {i : Nat}, posK key t l ≤ i → l[i]? = some x → t ≤ key x
  | [], x, _, i, _, hx => by simp at hx
  | y :: l, x, hs, i, h, hx => by
    simp only [posK] at h
    split at h
    · rename_i hy
      cases i with
      | zero => omega
      | succ i => simp at hx; exact posK_ge (List.pairwise_cons.1 hs).2 (by omega) hx
    · rename_i hy
      cases i with
      | zero => simp at hx; subst hx; omega
      | succ i => simp at hx; have := (List.pairwise_cons.1 hs).1 x (List.mem_of_getElem? hx); omega
/-- It is the only place where all ahead are less and none behind is. -/
theorem posK_eq {t : Int} {l : List α} {i : Nat} (hi : i ≤ l.length) (h1 : ∀ (k : Nat) (x : α), k < i → l[k]? = some x → key x < t) (h2 : ∀ (x : α), l[i]? = some x → t ≤ key x) : i = posK key t l := by
  induction l generalizing i with
  | nil => simp at hi; subst hi; rfl
  | cons y l ih =>
    cases i with
    | zero =>
      have := h2 y rfl
      simp only [posK]; rw [if_neg (by omega)]
    | succ i =>
      have := h1 0 y (by omega) rfl
      simp only [posK]
      rw [if_pos this, ← ih (i := i) (by simpa using hi) (fun k x hk hx => h1 (k + 1) x (by omega) (by simpa using hx)) (fun x hx => h2 x (by simpa using hx))]
theorem isK_at {t : Int} {l : List α} (hs : SortK key l) : isK' key t l = match l[posK key t l]? with | some x => key x == t | none => false := by
  cases h : l[posK key t l]? with
  | none =>
    simp only
    unfold isK'
    rw [List.any_eq_false]
    intro x hx
    obtain ⟨i, hi⟩ := List.mem_iff_getElem?.1 hx
    have hlt := (List.getElem?_eq_some_iff.1 hi).1
    have h2 := List.getElem?_eq_none_iff.1 h
    have := posK_lt (t := t) (show i < posK key t l by omega) hi
    simp only [beq_iff_eq]; omega
  | some y =>
    simp only
    rw [Bool.eq_iff_iff]
    simp only [isK', List.any_eq_true, beq_iff_eq]
    constructor
    · rintro ⟨x, hx, he⟩
      obtain ⟨i, hi⟩ := List.mem_iff_getElem?.1 hx
      have hge : posK key t l ≤ i := by
        apply Nat.le_of_not_lt
        intro hlt
        have := posK_lt hlt hi
        omega
      rcases Nat.lt_or_eq_of_le hge with hlt | heq
      · have h1 := posK_ge hs (Nat.le_refl _) h
        have hp := List.pairwise_iff_getElem.1 hs _ _ (List.getElem?_eq_some_iff.1 h).1 (List.getElem?_eq_some_iff.1 hi).1 hlt
        rw [(List.getElem?_eq_some_iff.1 h).2, (List.getElem?_eq_some_iff.1 hi).2] at hp
        omega
      · rw [heq, hi] at h
        cases h
        exact he
    · intro he
      exact ⟨y, List.mem_of_getElem? h, he⟩
theorem insK_length (x : α) (l : List α) : (insK key x l).length = l.length + 1 := by
  have := posK_le (key := key) (key x) l
  simp [insK]; omega
theorem mem_insK {x y : α} {l : List α} : y ∈ insK key x l ↔ y = x ∨ y ∈ l := by
  have h : y ∈ l ↔ y ∈ l.take (posK key (key x) l) ∨ y ∈ l.drop (posK key (key x) l) := by
    rw [← List.mem_append, List.take_append_drop]
  rw [h]
  simp only [insK, List.mem_append, List.mem_singleton]
  constructor
  · rintro ((h | h) | h)
    · exact .inr (.inl h)
    · exact .inl h
    · exact .inr (.inr h)
  · rintro (h | h | h)
    · exact .inl (.inr h)
    · exact .inl (.inl h)
    · exact .inr h
theorem insK_cons {x y : α} {l : List α} : insK key x (y :: l) = if key y < key x then y :: insK key x l else x :: y :: l := by
  unfold insK
  simp only [posK]
  split <;> simp
theorem isK_false {t : Int} {l : List α} : isK' key t l = false ↔ ∀ x ∈ l, key x ≠ t := by
  simp [isK', List.any_eq_false]
theorem insK_sort {x : α} : ∀ {l : List α}, SortK key l → isK' key (key x) l = false → SortK key (insK key x l)
  | [], _, _ => by simp [insK, posK, SortK]
  | y :: l, hs, hn => by
    have hne := isK_false.1 hn
    rw [insK_cons]
    obtain ⟨h1, h2⟩ := List.pairwise_cons.1 hs
    split
    · rename_i hlt
      refine List.pairwise_cons.2 ⟨fun z hz => ?_, insK_sort h2 (isK_false.2 fun z hz => hne z (by simp [hz]))⟩
      rcases mem_insK.1 hz with rfl | hz
      · exact hlt
      · exact h1 z hz
    · rename_i hge
      have := hne y (by simp)
      refine List.pairwise_cons.2 ⟨fun z hz => ?_, hs⟩
      rcases List.mem_cons.1 hz with rfl | hz
      · omega
      · have := h1 z hz; omega
theorem sort_nil : SortK key ([] : List α) := List.Pairwise.nil
/-- Two lists in order with the same members are the same. -/
theorem sort_ext : ∀ {l m : List α}, SortK key l → SortK key m → (∀ x, x ∈ l ↔ x ∈ m) → l = m
  | [], [], _, _, _ => rfl
  | [], y :: m, _, _, h => by have := (h y).2 (by simp); simp at this
  | x :: l, [], _, _, h => by have := (h x).1 (by simp); simp at this
  | x :: l, y :: m, h1, h2, h => by
    obtain ⟨a1, a2⟩ := List.pairwise_cons.1 h1
    obtain ⟨b1, b2⟩ := List.pairwise_cons.1 h2
    have hxy : x = y := by
      rcases List.mem_cons.1 ((h x).1 (by simp)) with e | e
      · exact e
      · rcases List.mem_cons.1 ((h y).2 (by simp)) with f | f
        · exact f.symm
        · have := a1 y f; have := b1 x e; omega
    subst hxy
    congr 1
    refine sort_ext a2 b2 fun z => ?_
    constructor
    · intro hz
      rcases List.mem_cons.1 ((h z).1 (by simp [hz])) with rfl | e
      · have := a1 z hz; omega
      · exact e
    · intro hz
      rcases List.mem_cons.1 ((h z).2 (by simp [hz])) with rfl | e
      · have := b1 z hz; omega
      · exact e
theorem sort_map {β : Type} {k2 : β → Int} {f : α → β} (hk : ∀ x, k2 (f x) = key x) {l : List α} (h : SortK key l) : SortK k2 (l.map f) := by
  unfold SortK
  rw [List.pairwise_map]
  exact h.imp fun {a b} hab => by rw [hk, hk]; exact hab
end
end Go.Proofs.Ytbponegjfccgfaa.Am
