/-
  THE NEXT VIEW.
-/
import Derived.Test.YtjmgnodeohmboaaDoorB1
namespace Go.Proofs.YtjmgnodeohmboaaDoor.Am
set_option linter.unusedSimpArgs false
set_option linter.unusedVariables false
open Go Go.Proofs
attribute [local irreducible] wpA
attribute [-simp] splice

theorem cnt_sub2 {a b : Nat} : ∀ k, (∀ i, i < k → hasS a i = true → hasS b i = true) → cntTo a k ≤ cntTo b k ∧ (cntTo b k ≤ cntTo a k → ∀ i, i < k → hasS a i = hasS b i)
  | 0, _ => ⟨by simp [cntTo], fun _ i hi => by omega⟩
  | k + 1, h => by
    obtain ⟨h1, h2⟩ := cnt_sub2 k fun i hi => h i (by omega)
    have hk := h k (by omega)
    simp only [cntTo]
    cases ha : hasS a k <;> cases hb : hasS b k
    · refine ⟨by simp; omega, fun hc i hi => ?_⟩
      simp only [Bool.false_eq_true, if_false] at hc
      by_cases e : i = k
      · subst e; rw [ha, hb]
      · exact h2 (by omega) i (by omega)
    · refine ⟨by simp; omega, fun hc i hi => ?_⟩
      simp at hc
      omega
    · exact absurd (hk ha) (by simp [hb])
    · refine ⟨by simp; omega, fun hc i hi => ?_⟩
      simp only [if_true] at hc
      by_cases e : i = k
      · subst e; rw [ha, hb]
      · exact h2 (by omega) i (by omega)
theorem has_bit (i j : Nat) : hasS (bitS i) j = (decide (i = j) && decide (i < 16)) := bit_has i j
theorem without_zero {m i : Nat} (hm : m < 65536) (h : hasS m i = true) : withoutS m i = 0 ↔ sizeS m = 1 := by
  have h16 := has_lt hm h
  have hsz : ∀ k : Fin 16, sizeS (bitS k.val) = 1 := by decide +kernel
  have hwo : ∀ k : Fin 16, withoutS (bitS k.val) k.val = 0 := by decide +kernel
  constructor
  · intro h0
    have : m = bitS i := set_ext hm (bitS_lt i) fun j _ => by
      have h1 := has_without hm i j
      rw [h0, has_zero] at h1
      rw [has_bit]
      by_cases e : i = j
      · subst e; simp [h, h16]
      · simp [e] at h1 ⊢; exact h1
    rw [this]; exact hsz ⟨i, h16⟩
  · intro h1
    have hs := hsz ⟨i, h16⟩
    simp only at hs
    rw [size_cnt] at hs h1
    have hsub : ∀ j, j < 16 → hasS (bitS i) j = true → hasS m j = true := fun j _ hj => by
      rw [has_bit] at hj
      simp at hj
      rw [← hj.1]; exact h
    have := (cnt_sub2 16 hsub).2 (by omega)
    have e := set_ext (bitS_lt i) hm this
    rw [← e]; exact hwo ⟨i, h16⟩
theorem with_nz {m i : Nat} (h : i < 16) : withS m i ≠ 0 := fun e => by
  have := has_with (m := m) i i
  rw [e, has_zero] at this
  simp [h] at this

def applyV (v : Int) (m : Nat) (a : Bool) (i : Nat) : (Int × Nat) × Int :=
  if rightV v m = false ∨ 16 ≤ i then ((0, 0), 2)
  else if (a && hasS m i) = true then ((0, 0), 9)
  else if (!a && !hasS m i) = true then ((0, 0), 8)
  else if v = 1000 then ((0, 0), 11)
  else if a = false ∧ sizeS m = 1 then ((0, 0), 10)
  else ((v + 1, if a = true then withS m i else withoutS m i), 0)
def spApplyV : Spec
  | [.agg [.v (.int .i64 v), .v (.int .u16 m)], .agg [.v (.bool a), .v (.int .u8 i)]], [] => if 0 ≤ m ∧ m < 65536 ∧ 0 ≤ i ∧ i < 256 then
      some (.ret (.tup [.agg [.v (.int .i64 (applyV v m.toNat a i.toNat).1.1), .v (.int .u16 ((applyV v m.toNat a i.toNat).1.2 : Nat))], .v (.int .i64 (applyV v m.toNat a i.toNat).2)]), []) else none
  | _, _ => none
theorem right_v {v : Int} {m : Nat} : rightV v m = true ↔ 0 ≤ v ∧ v ≤ 1000 ∧ m ≠ 0 := by simp [rightV]

end Go.Proofs.YtjmgnodeohmboaaDoor.Am
