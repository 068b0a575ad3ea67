/-
  VECTORS, plainly: no program in sight.
-/
import Derived.Test.YtjmgnodeohmboaaDoorV0
namespace Go.Proofs.YtjmgnodeohmboaaDoor.Am
set_option linter.unusedSimpArgs false
set_option linter.unusedVariables false
open Go

/-! ### Vectors -/
def okV (v : List Nat) : Prop := v.length = 16 ∧ ∀ n ∈ v, n < 65536
theorem okV_at {v : List Nat} {i x : Nat} (h : okV v) (hi : v[i]? = some x) : x < 65536 := h.2 x (List.mem_of_getElem? hi)
def joinV : List Nat → List Nat → List Nat
  | a :: l, b :: m => max a b :: joinV l m
  | _, _ => []
def belowV : List Nat → List Nat → Bool
  | a :: l, b :: m => decide (a ≤ b) && belowV l m
  | _, _ => true
theorem joinV_length : ∀ {a b : List Nat}, a.length = b.length → (joinV a b).length = a.length
  | [], [], _ => rfl
  | x :: a, y :: b, h => by simp only [List.length_cons] at h; simp [joinV, joinV_length (a := a) (b := b) (by omega)]
  | [], _ :: _, h => by simp at h
  | _ :: _, [], h => by simp at h
theorem joinV_get : ∀ {a b : List Nat} {i x y : Nat}, a[i]? = some x → b[i]? = some y → (joinV a b)[i]? = some (max x y)
  | x :: a, y :: b, 0, _, _, h1, h2 => by simp at h1 h2; simp [joinV, h1, h2]
  | _ :: a, _ :: b, i + 1, _, _, h1, h2 => by simp at h1 h2; simp [joinV, joinV_get h1 h2]
theorem joinV_lt : ∀ {a b : List Nat}, (∀ n ∈ a, n < 65536) → (∀ n ∈ b, n < 65536) → ∀ n ∈ joinV a b, n < 65536
  | [], b, _, _, n, hn => by cases b <;> simp [joinV] at hn
  | _ :: _, [], _, _, n, hn => by simp [joinV] at hn
  | x :: a, y :: b, h1, h2, n, hn => by
    simp only [joinV, List.mem_cons] at hn
    rcases hn with rfl | hn
    · have := h1 x (by simp); have := h2 y (by simp); omega
    · exact joinV_lt (fun n hn => h1 n (by simp [hn])) (fun n hn => h2 n (by simp [hn])) n hn
theorem okV_join {a b : List Nat} (ha : okV a) (hb : okV b) : okV (joinV a b) := ⟨by rw [joinV_length (by rw [ha.1, hb.1]), ha.1], joinV_lt ha.2 hb.2⟩
theorem belowV_no : ∀ {a b : List Nat} {i x y : Nat}, a[i]? = some x → b[i]? = some y → y < x → belowV a b = false
  | x :: a, y :: b, 0, _, _, h1, h2, h => by
    simp at h1 h2; subst h1; subst h2
    simp only [belowV, decide_eq_false (show ¬ x ≤ y by omega), Bool.false_and]
  | _ :: a, _ :: b, i + 1, _, _, h1, h2, h => by simp at h1 h2; simp [belowV, belowV_no h1 h2 h]
theorem belowV_yes : ∀ {a b : List Nat}, (∀ (i x y : Nat), a[i]? = some x → b[i]? = some y → x ≤ y) → belowV a b = true
  | [], _, _ => rfl
  | _ :: _, [], _ => rfl
  | x :: a, y :: b, h => by
    simp only [belowV, Bool.and_eq_true, decide_eq_true_eq]
    exact ⟨h 0 x y rfl rfl, belowV_yes fun i x y h1 h2 => h (i + 1) x y h1 h2⟩
theorem below_join : ∀ {a b : List Nat}, a.length = b.length → eqV (joinV a b) b = belowV a b
  | [], [], _ => rfl
  | x :: a, y :: b, h => by
    simp only [List.length_cons] at h
    have := below_join (a := a) (b := b) (by omega)
    simp only [joinV, eqV, belowV, this]
    congr 1
    rw [Bool.eq_iff_iff]; simp; omega
  | [], _ :: _, h => by simp at h
  | _ :: _, [], h => by simp at h
theorem belowV_iff : ∀ {a b : List Nat}, a.length = b.length → (belowV a b = true ↔ joinV a b = b)
  | [], [], _ => by simp [belowV, joinV]
  | x :: a, y :: b, h => by
    simp only [List.length_cons] at h
    have := belowV_iff (a := a) (b := b) (by omega)
    simp only [belowV, joinV, Bool.and_eq_true, decide_eq_true_eq, this, List.cons.injEq]
    constructor
    · rintro ⟨h1, h2⟩; exact ⟨by omega, h2⟩
    · rintro ⟨h1, h2⟩; exact ⟨by omega, h2⟩
  | [], _ :: _, h => by simp at h
  | _ :: _, [], h => by simp at h
theorem joinV_comm : ∀ (a b : List Nat), joinV a b = joinV b a
  | [], b => by cases b <;> rfl
  | _ :: _, [] => rfl
  | x :: a, y :: b => by simp [joinV, joinV_comm a b, Nat.max_comm]
theorem joinV_self : ∀ (a : List Nat), joinV a a = a
  | [] => rfl
  | x :: a => by simp [joinV, joinV_self a]
theorem joinV_assoc : ∀ (a b c : List Nat), joinV (joinV a b) c = joinV a (joinV b c)
  | [], b, c => by cases b <;> cases c <;> rfl
  | _ :: _, [], c => by cases c <;> rfl
  | _ :: _, _ :: _, [] => rfl
  | x :: a, y :: b, z :: c => by simp [joinV, joinV_assoc a b c, Nat.max_assoc]
theorem below_left : ∀ (a b : List Nat), belowV a (joinV a b) = true
  | [], _ => by cases ‹List Nat› <;> rfl
  | _ :: _, [] => rfl
  | x :: a, y :: b => by simp [joinV, belowV, below_left a b]; omega
theorem below_right (a b : List Nat) : belowV b (joinV a b) = true := by rw [joinV_comm]; exact below_left b a
theorem below_least : ∀ {a b : List Nat}, a.length = b.length → ∀ c : List Nat, b.length = c.length → belowV (joinV a b) c = (belowV a c && belowV b c)
  | [], [], _, _, _ => rfl
  | x :: a, y :: b, h, [], h2 => by simp at h2
  | x :: a, y :: b, h, z :: c, h2 => by
    simp only [List.length_cons] at h h2
    simp only [joinV, belowV, below_least (a := a) (b := b) (by omega) c (by omega)]
    rw [Bool.eq_iff_iff]; simp; constructor
    · rintro ⟨h1, h2, h3⟩; exact ⟨⟨by omega, h2⟩, by omega, h3⟩
    · rintro ⟨⟨h1, h2⟩, h3, h4⟩; exact ⟨by omega, h2, h4⟩
  | [], _ :: _, h, _, _ => by simp at h
  | _ :: _, [], h, _, _ => by simp at h
theorem below_trans : ∀ {a b c : List Nat}, a.length = b.length → b.length = c.length → belowV a b = true → belowV b c = true → belowV a c = true
  | [], _, _, _, _, _, _ => rfl
  | x :: a, y :: b, z :: c, h, h2, h3, h4 => by
    simp only [List.length_cons] at h h2
    simp only [belowV, Bool.and_eq_true, decide_eq_true_eq] at h3 h4 ⊢
    exact ⟨by omega, below_trans (by omega) (by omega) h3.2 h4.2⟩
  | _ :: _, [], _, h, _, _, _ => by simp at h
  | _ :: _, _ :: _, [], _, h, _, _ => by simp at h
theorem below_both {a b : List Nat} (h : a.length = b.length) (h1 : belowV a b = true) : belowV b a = eqV a b := by
  have e1 := (belowV_iff h).1 h1
  rw [Bool.eq_iff_iff, belowV_iff h.symm, eqV_iff h, joinV_comm, e1]
  exact eq_comm
theorem below_self (a : List Nat) : belowV a a = true := by have := below_left a a; rwa [joinV_self] at this
theorem below_zero : ∀ (k : Nat) (a : List Nat), belowV (List.replicate k 0) a = true
  | 0, _ => rfl
  | k + 1, [] => rfl
  | k + 1, x :: a => by simp [List.replicate_succ, belowV, below_zero k a]


theorem take_more {α : Type} {l : List α} {i : Nat} {x : α} (h : l[i]? = some x) : l.take (i + 1) = l.take i ++ [x] := by
  rw [List.take_add_one, h]; rfl

instance (v : List Nat) : Decidable (okV v) := by unfold okV; infer_instance
end Go.Proofs.YtjmgnodeohmboaaDoor.Am
