/-
  AN ARRAY OF MARKS AS CELLS: sixteen marks in a row. No program is named here.
-/
import Derived.Test.YtbponegjfccgfaaEMk
namespace Go.Proofs.Ytbponegjfccgfaa.Am
set_option linter.unusedSimpArgs false
set_option linter.unusedVariables false
open Go Go.Proofs
attribute [-simp] splice

def bigc : List Mk → List AV
  | [] => []
  | m :: l => mc m.who m.past ++ bigc l
def okB (l : List Mk) : Prop := ∀ m ∈ l, m.past.length = 16
theorem bigc_length : ∀ {l : List Mk}, okB l → (bigc l).length = 17 * l.length
  | [], _ => rfl
  | m :: l, h => by
    rw [bigc, List.length_append, mc_length (h m (by simp)), bigc_length (l := l) fun x hx => h x (by simp [hx]), List.length_cons]
    omega
theorem bigc_flat : ∀ (l : List Mk), FlatL (bigc l)
  | [] => flat_nil
  | m :: l => flat_append (flat_cons (flat_int _ _) (flat_vc _)) (bigc_flat l)
theorem bigc_drop : ∀ {l : List Mk} {k : Nat}, okB l → (bigc l).drop (17 * k) = bigc (l.drop k)
  | [], k, _ => by simp [bigc]
  | m :: l, 0, _ => by simp
  | m :: l, k + 1, h => by
    have hm := mc_length (k := m.who) (h m (by simp))
    rw [bigc, List.drop_append, hm, List.drop_of_length_le (by omega), List.drop_succ_cons, List.nil_append, ← bigc_drop (l := l) (k := k) fun x hx => h x (by simp [hx])]
    congr 1
theorem bigc_take : ∀ {l : List Mk} {k : Nat}, okB l → (bigc l).take (17 * k) = bigc (l.take k)
  | [], k, _ => by simp [bigc]
  | m :: l, 0, _ => by simp [bigc]
  | m :: l, k + 1, h => by
    have hm := mc_length (k := m.who) (h m (by simp))
    rw [bigc, List.take_append, hm, List.take_of_length_le (by omega), List.take_succ_cons, bigc, ← bigc_take (l := l) (k := k) fun x hx => h x (by simp [hx])]
    congr 2
theorem bigc_at {l : List Mk} {k : Nat} {m : Mk} (h : okB l) (hk : l[k]? = some m) : ((bigc l).drop (17 * k)).take 17 = mc m.who m.past := by
  have hm := mc_length (k := m.who) (h m (List.mem_of_getElem? hk))
  obtain ⟨hlt, rfl⟩ := List.getElem?_eq_some_iff.1 hk
  rw [bigc_drop h, List.drop_eq_getElem_cons hlt, bigc, List.take_append, hm, List.take_of_length_le (by omega)]
  simp
theorem bigc_append : ∀ (a b : List Mk), bigc (a ++ b) = bigc a ++ bigc b
  | [], b => by simp [bigc]
  | m :: a, b => by simp [bigc, bigc_append a b]
theorem bigc_put {l : List Mk} {k : Nat} {w : Int} {v : List Nat} (h : okB l) (hk : k < l.length) (hv : v.length = 16) : splice (bigc l) (17 * k) (mc w v) = bigc (l.set k ⟨w, v⟩) := by
  have e : 17 * k + (mc w v).length = 17 * (k + 1) := by rw [mc_length hv]; omega
  rw [splice, e, bigc_take h, bigc_drop h, set_split _ l k hk, bigc_append, bigc_append]
  simp [bigc]
theorem bigc_mapId (f : Nat → Nat) (l : List Mk) : AV.mapIdAll f (bigc l) = bigc l := flat_mapId (bigc_flat l)
theorem bigc_ids (l : List Mk) : AV.idsAll (bigc l) = [] := flat_ids (bigc_flat l)
theorem bigc_slices (l : List Mk) : AV.slicesAll (bigc l) = [] := flat_slices (bigc_flat l)
theorem bigc_bare (l : List Mk) : AV.isBareAll (bigc l) = true := flat_bare (bigc_flat l)
theorem bigc_one (l : List Mk) : (bigc l).all AV.one = true := flat_one (bigc_flat l)
theorem bigc_res (m : List Blk) (l : List Mk) : AV.resAll m (bigc l) = bigc l := flat_res (bigc_flat l)
theorem bigc_frz (m : List Blk) (l : List Mk) : AV.frzAll m (bigc l) = bigc l := flat_frz (bigc_flat l)
theorem bigc_zero : bigc (List.replicate 16 ⟨0, List.replicate 16 0⟩) = List.flatten (List.replicate 16 (.v (.int .u8 0) :: List.replicate 16 (.v (.int .u16 0)))) := by
  simp only [List.replicate, bigc, mc, vc, List.map, List.flatten]
  rfl
theorem bigc_at' {l : List Mk} {k : Nat} {m : Mk} (h : okB l) (hk : l[k]? = some m) : ((bigc l).drop (k * 17)).take 17 = mc m.who m.past := by rw [Nat.mul_comm]; exact bigc_at h hk
theorem bigc_put' {l : List Mk} {k : Nat} {w : Int} {v : List Nat} (h : okB l) (hk : k < l.length) (hv : v.length = 16) : splice (bigc l) (k * 17) (mc w v) = bigc (l.set k ⟨w, v⟩) := by rw [Nat.mul_comm]; exact bigc_put h hk hv
attribute [simp] bigc_mapId bigc_ids bigc_slices bigc_bare bigc_one bigc_res bigc_frz
attribute [irreducible] bigc
end Go.Proofs.Ytbponegjfccgfaa.Am
