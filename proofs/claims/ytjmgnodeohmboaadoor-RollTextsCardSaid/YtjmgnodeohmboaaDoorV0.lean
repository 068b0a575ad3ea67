/-
  VECTORS AS CELLS: sixteen numbers in a row. No program is named here.
-/
import Derived.Test.YtjmgnodeohmboaaDoorAmJ
import Derived.Test.YtjmgnodeohmboaaDoorP0
namespace Go.Proofs.YtjmgnodeohmboaaDoor.Am
set_option linter.unusedSimpArgs false
set_option linter.unusedVariables false
open Go Go.Proofs

def vc (l : List Nat) : List AV := l.map fun (n : Nat) => AV.v (.int .u16 n)
theorem vc_cons (n : Nat) (l : List Nat) : vc (n :: l) = .v (.int .u16 n) :: vc l := rfl
theorem vc_length (l : List Nat) : (vc l).length = l.length := by simp [vc]
theorem vc_drop (l : List Nat) (i : Nat) : (vc l).drop i = vc (l.drop i) := by simp [vc]
theorem vc_take (l : List Nat) (i : Nat) : (vc l).take i = vc (l.take i) := by simp [vc]
theorem vc_append (a b : List Nat) : vc a ++ vc b = vc (a ++ b) := by simp [vc]
theorem vc_get (l : List Nat) (i : Nat) : (vc l)[i]? = l[i]?.map fun (n : Nat) => AV.v (.int .u16 n) := by simp [vc]
theorem vc_one (l : List Nat) : (vc l).all AV.one = true := by simp [vc, AV.one, Value.oneCell']
theorem vc_bare : ∀ l : List Nat, AV.isBareAll (vc l) = true
  | [] => rfl
  | n :: l => by rw [vc_cons]; simp [AV.isBareAll, AV.isBare, vc_bare l]
theorem vc_frz (m : List Blk) : ∀ l : List Nat, AV.frzAll m (vc l) = vc l
  | [] => rfl
  | n :: l => by rw [vc_cons]; simp [AV.frzAll, AV.frz, vc_frz m l]
theorem vc_res (m : List Blk) : ∀ l : List Nat, AV.resAll m (vc l) = vc l
  | [] => rfl
  | n :: l => by rw [vc_cons]; simp [AV.resAll, AV.res, vc_res m l]
theorem vc_mapId (f : Nat → Nat) : ∀ l : List Nat, AV.mapIdAll f (vc l) = vc l
  | [] => rfl
  | n :: l => by rw [vc_cons]; simp [AV.mapIdAll, AV.mapId, vc_mapId f l]
theorem vc_ids : ∀ l : List Nat, AV.idsAll (vc l) = []
  | [] => rfl
  | n :: l => by rw [vc_cons]; simp [AV.idsAll, AV.ids, vc_ids l]
theorem vc_slices : ∀ l : List Nat, AV.slicesAll (vc l) = []
  | [] => rfl
  | n :: l => by rw [vc_cons]; simp [AV.slicesAll, AV.slices, vc_slices l]

theorem frzAll_append (m : List Blk) : ∀ a b : List AV, AV.frzAll m (a ++ b) = AV.frzAll m a ++ AV.frzAll m b
  | [], b => rfl
  | x :: a, b => by simp [AV.frzAll, frzAll_append m a b]
theorem resAll_append (m : List Blk) : ∀ a b : List AV, AV.resAll m (a ++ b) = AV.resAll m a ++ AV.resAll m b
  | [], b => rfl
  | x :: a, b => by simp [AV.resAll, resAll_append m a b]
theorem mapIdAll_append (f : Nat → Nat) : ∀ a b : List AV, AV.mapIdAll f (a ++ b) = AV.mapIdAll f a ++ AV.mapIdAll f b
  | [], b => rfl
  | x :: a, b => by simp [AV.mapIdAll, mapIdAll_append f a b]
theorem idsAll_append : ∀ a b : List AV, AV.idsAll (a ++ b) = AV.idsAll a ++ AV.idsAll b
  | [], b => rfl
  | x :: a, b => by simp [AV.idsAll, idsAll_append a b]
theorem slicesAll_append : ∀ a b : List AV, AV.slicesAll (a ++ b) = AV.slicesAll a ++ AV.slicesAll b
  | [], b => rfl
  | x :: a, b => by simp [AV.slicesAll, slicesAll_append a b]
theorem bareAll_append : ∀ a b : List AV, AV.isBareAll (a ++ b) = (AV.isBareAll a && AV.isBareAll b)
  | [], b => rfl
  | x :: a, b => by simp [AV.isBareAll, bareAll_append a b, Bool.and_assoc]

theorem set_split {α : Type} (x : α) : ∀ (l : List α) (i : Nat), i < l.length → l.set i x = l.take i ++ [x] ++ l.drop (i + 1)
  | [], i, h => by simp at h
  | y :: l, 0, _ => by simp
  | y :: l, i + 1, h => by simp only [List.length_cons] at h; simp [set_split x l i (by omega)]

theorem take_drop_one {α : Type} {l : List α} {i : Nat} {x : α} (h : l[i]? = some x) : (l.drop i).take 1 = [x] := by
  rw [List.take_one, List.head?_drop, h]; rfl

/-- One cell of a vector, written. -/
theorem vc_splice (v : List Nat) (i x : Nat) (h : i < v.length) : splice (vc v) i [.v (.int .u16 x)] = vc (v.set i x) := by
  have e : vc [x] = [.v (.int .u16 x)] := rfl
  simp only [splice, List.length_singleton, vc_take, vc_drop, ← e, vc_append, vc_length, set_split x v i h]

/-! ### A number, a vector, a text -/
def bc (k : Int) (v : List Nat) (t : ByteArray) : List AV := .v (.int .i64 k) :: (vc v ++ [.v (.string t)])
section
variable {k : Int} {v w : List Nat} {t : ByteArray}
theorem bc_length (h : v.length = 16) : (bc k v t).length = 18 := by simp [bc, vc_length, h]
theorem bc_one : (bc k v t).all AV.one = true := by simp [bc, vc_one, AV.one, Value.oneCell']
theorem bc_bare : AV.isBareAll (bc k v t) = true := by simp [bc, AV.isBareAll, AV.isBare, bareAll_append, vc_bare]
theorem bc_frz (m : List Blk) : AV.frzAll m (bc k v t) = bc k v t := by simp [bc, AV.frzAll, AV.frz, frzAll_append, vc_frz]
theorem bc_res (m : List Blk) : AV.resAll m (bc k v t) = bc k v t := by simp [bc, AV.resAll, AV.res, resAll_append, vc_res]
theorem bc_mapId (f : Nat → Nat) : AV.mapIdAll f (bc k v t) = bc k v t := by simp [bc, AV.mapIdAll, AV.mapId, mapIdAll_append, vc_mapId]
theorem bc_ids : AV.idsAll (bc k v t) = [] := by simp [bc, AV.idsAll, AV.ids, idsAll_append, vc_ids]
theorem bc_slices : AV.slicesAll (bc k v t) = [] := by simp [bc, AV.slicesAll, AV.slices, slicesAll_append, vc_slices]
theorem bc_take1 : (bc k v t).take 1 = [.v (.int .i64 k)] := by simp [bc]
theorem bc_past (h : v.length = 16) : ((bc k v t).drop 1).take 16 = vc v := by
  simp only [bc, List.drop_succ_cons, List.drop_zero]
  rw [List.take_append_of_le_length (by simp [vc_length, h]), List.take_of_length_le (by simp [vc_length, h])]
theorem bc_text (h : v.length = 16) : ((bc k v t).drop 17).take 1 = [.v (.string t)] := by
  simp only [bc, List.drop_succ_cons]
  rw [List.drop_append_of_le_length (by simp [vc_length, h]), List.drop_of_length_le (by simp [vc_length, h])]
  rfl
theorem bc_at {i x : Nat} (hi : v[i]? = some x) : ((bc k v t).drop (1 + i)).take 1 = [.v (.int .u16 x)] := by
  have hl : i < v.length := (List.getElem?_eq_some_iff.1 hi).1
  refine take_drop_one ?_
  rw [Nat.add_comm]
  simp only [bc, List.getElem?_cons_succ]
  rw [List.getElem?_append_left (by rw [vc_length]; exact hl), vc_get, hi]
  rfl
theorem bc_put (i x : Nat) (h : i < v.length) : splice (bc k v t) (1 + i) [.v (.int .u16 x)] = bc k (v.set i x) t := by
  have e := vc_splice v i x h
  simp only [splice, List.length_singleton] at e ⊢
  rw [Nat.add_comm 1 i]
  simp only [bc, List.take_succ_cons, List.drop_succ_cons]
  rw [List.take_append_of_le_length (by rw [vc_length]; omega), List.drop_append_of_le_length (by rw [vc_length]; omega), ← e]
  simp
theorem bc_putv (h : v.length = 16) (h' : w.length = 16) : splice (bc k v t) 1 (vc w) = bc k w t := by
  simp only [splice, vc_length, h', bc, List.take_succ_cons, List.take_zero, List.drop_succ_cons]
  rw [List.drop_append_of_le_length (by simp [vc_length, h]), List.drop_of_length_le (by simp [vc_length, h])]
  simp
theorem bc_putk (k' : Int) : splice (bc k v t) 0 [.v (.int .i64 k')] = bc k' v t := by simp [splice, bc]
theorem bc_putt (h : v.length = 16) (t' : ByteArray) : splice (bc k v t) 17 [.v (.string t')] = bc k v t' := by
  simp only [splice, bc, List.take_succ_cons, List.drop_succ_cons, List.length_singleton]
  rw [List.take_append_of_le_length (by simp [vc_length, h]), List.take_of_length_le (by simp [vc_length, h])]
  rw [List.drop_of_length_le (by simp [vc_length, h])]
  simp
end

/-! ### Are they the same? -/
def eqV : List Nat → List Nat → Bool
  | a :: l, b :: m => ((a : Int) == (b : Int)) && eqV l m
  | _, _ => true
theorem eqV_iff : ∀ {l m : List Nat}, l.length = m.length → (eqV l m = true ↔ l = m)
  | [], [], _ => by simp [eqV]
  | a :: l, b :: m, h => by
    simp only [List.length_cons] at h
    simp only [eqV, Bool.and_eq_true, beq_iff_eq, List.cons.injEq, Int.natCast_inj, eqV_iff (l := l) (m := m) (by omega)]
  | [], _ :: _, h => by simp at h
  | _ :: _, [], h => by simp at h
theorem eqV_self (l : List Nat) : eqV l l = true := (eqV_iff rfl).2 rfl
theorem eqCells_vc (ks : List EK) : ∀ (l m : List Nat) (r s : List AV), l.length = m.length → eqCells (List.replicate l.length .i ++ ks) (vc l ++ r) (vc m ++ s) = (eqCells ks r s).map (eqV l m && ·)
  | [], [], r, s, _ => by simp [vc, eqV]
  | a :: l, b :: m, r, s, h => by
    simp only [List.length_cons] at h
    simp only [List.length_cons, List.replicate_succ, List.cons_append, vc_cons, eqCells, eqV, if_true]
    rw [eqCells_vc ks l m r s (by omega)]
    cases eqCells ks r s <;> simp [Bool.and_assoc]
  | [], _ :: _, r, s, h => by simp at h
  | _ :: _, [], r, s, h => by simp at h
theorem eqCells_16 {l m : List Nat} (h1 : l.length = 16) (h2 : m.length = 16) : eqCells [.i, .i, .i, .i, .i, .i, .i, .i, .i, .i, .i, .i, .i, .i, .i, .i] (vc l) (vc m) = some (eqV l m) := by
  have := eqCells_vc [] l m [] [] (by omega)
  rw [h1] at this
  simpa [List.replicate, eqCells] using this
theorem eqCells_18 {k k' : Int} {l m : List Nat} {t t' : ByteArray} (h1 : l.length = 16) (h2 : m.length = 16) :
    eqCells [.i, .i, .i, .i, .i, .i, .i, .i, .i, .i, .i, .i, .i, .i, .i, .i, .i, .s] (bc k l t) (bc k' m t') = some (k == k' && (eqV l m && t == t')) := by
  have := eqCells_vc [.s] l m [.v (.string t)] [.v (.string t')] (by omega)
  rw [h1] at this
  simp only [List.replicate, List.cons_append, List.nil_append] at this
  simp [bc, eqCells, this]

/-! ### As arguments, and as zeros -/
def unVc : List AV → Option (List Nat)
  | [] => some []
  | .v (.int .u16 n) :: r => if 0 ≤ n then (unVc r).map fun l => n.toNat :: l else none
  | _ => none
theorem unVc_vc : ∀ l : List Nat, unVc (vc l) = some l
  | [] => rfl
  | n :: l => by simp [vc_cons, unVc, unVc_vc l]
theorem unVc_some : ∀ {cs : List AV} {l : List Nat}, unVc cs = some l → cs = vc l
  | [], l, h => by simp [unVc] at h; subst h; rfl
  | c :: r, l, h => by
    unfold unVc at h
    split at h
    · rename_i heq; cases heq
    · rename_i n r' heq
      cases heq
      split at h
      · rename_i hn
        obtain ⟨l', hl', rfl⟩ := Option.map_eq_some_iff.1 h
        rw [unVc_some hl', vc_cons, Int.toNat_of_nonneg hn]
      · cases h
    · cases h
def zV : List Nat := List.replicate 16 0
theorem zV_length : zV.length = 16 := by simp [zV]
theorem lit16 : [AV.v (.int .u16 0), AV.v (.int .u16 0), AV.v (.int .u16 0), AV.v (.int .u16 0), AV.v (.int .u16 0), AV.v (.int .u16 0), AV.v (.int .u16 0), AV.v (.int .u16 0), AV.v (.int .u16 0), AV.v (.int .u16 0), AV.v (.int .u16 0), AV.v (.int .u16 0), AV.v (.int .u16 0), AV.v (.int .u16 0), AV.v (.int .u16 0), AV.v (.int .u16 0)] = vc zV := rfl
theorem lit18 (k : Int) (t : ByteArray) : [AV.v (.int .i64 k), AV.v (.int .u16 0), AV.v (.int .u16 0), AV.v (.int .u16 0), AV.v (.int .u16 0), AV.v (.int .u16 0), AV.v (.int .u16 0), AV.v (.int .u16 0), AV.v (.int .u16 0), AV.v (.int .u16 0), AV.v (.int .u16 0), AV.v (.int .u16 0), AV.v (.int .u16 0), AV.v (.int .u16 0), AV.v (.int .u16 0), AV.v (.int .u16 0), AV.v (.int .u16 0), AV.v (.string t)] = bc k zV t := rfl
theorem vc_take16 {v : List Nat} (h : v.length = 16) : (vc v).take 16 = vc v := by rw [List.take_of_length_le (by rw [vc_length]; omega)]
theorem bc_take18 {k : Int} {v : List Nat} {t : ByteArray} (h : v.length = 16) : (bc k v t).take 18 = bc k v t := by rw [List.take_of_length_le (by rw [bc_length h]; omega)]
theorem vc_all {v w : List Nat} (h : v.length = w.length) : splice (vc v) 0 (vc w) = vc w := by
  simp [splice, vc_length, ← h]
theorem bc_all {k k' : Int} {v w : List Nat} {t t' : ByteArray} (h : v.length = 16) (h' : w.length = 16) : splice (bc k v t) 0 (bc k' w t') = bc k' w t' := by
  simp only [splice, List.take_zero, List.nil_append, bc_length h', Nat.zero_add]
  rw [List.drop_of_length_le (by rw [bc_length h]; omega), List.append_nil]
def unB : List AV → Option (Int × List Nat × ByteArray)
  | .v (.int .i64 k) :: r => match r.getLast? with
    | some (.v (.string t)) => (unVc r.dropLast).map fun v => (k, v, t)
    | _ => none
  | _ => none
theorem unB_bc (k : Int) (v : List Nat) (t : ByteArray) : unB (bc k v t) = some (k, v, t) := by
  simp [unB, bc, unVc_vc]
theorem unB_some {cs : List AV} {k : Int} {v : List Nat} {t : ByteArray} (h : unB cs = some (k, v, t)) : cs = bc k v t := by
  unfold unB at h
  split at h
  case h_2 => cases h
  rename_i k' r
  split at h
  case h_2 => cases h
  rename_i t' hl
  obtain ⟨v', hv', h2⟩ := Option.map_eq_some_iff.1 h
  cases h2
  have := unVc_some hv'
  rw [bc, ← this]
  congr 1
  obtain ⟨hne, hlast⟩ := List.getLast?_eq_some_iff.1 hl
  rw [hlast]
  simp
attribute [simp] vc_length vc_drop vc_take vc_append vc_one vc_bare vc_frz vc_res vc_mapId vc_ids vc_slices bc_length bc_one bc_bare bc_frz bc_res bc_mapId bc_ids bc_slices bc_take1 bc_past bc_text unVc_vc unB_bc zV_length vc_take16 bc_take18 eqCells_16 eqCells_18 eqV_self
attribute [simp high] lit16 lit18 vc_splice bc_put bc_putv bc_putk bc_putt vc_all bc_all
theorem vc_single (n : Nat) : vc [n] = [.v (.int .u16 n)] := rfl
attribute [simp] vc_single
theorem splice_eq (cs : List AV) (o : Nat) (new : List AV) : splice cs o new = cs.take o ++ new ++ cs.drop (o + new.length) := rfl
attribute [simp low] splice_eq
theorem l16 {v : List Nat} (h : v.length = 16) : v.take 16 = v := List.take_of_length_le (by omega)
theorem bc_tail {k : Int} {v : List Nat} {t : ByteArray} (h : v.length = 16) : (bc k v t).tail.take 16 = vc v := by rw [← bc_past (k := k) (t := t) h, List.drop_one]
attribute [simp] l16 oneOr resAll res1 bc_tail

/-! ### A member, a vector -/
def mc (k : Int) (v : List Nat) : List AV := .v (.int .u8 k) :: vc v
section
variable {k k' : Int} {v w : List Nat}
theorem mc_length (h : v.length = 16) : (mc k v).length = 17 := by simp [mc, vc_length, h]
theorem mc_one : (mc k v).all AV.one = true := by simp [mc, vc_one, AV.one, Value.oneCell']
theorem mc_bare : AV.isBareAll (mc k v) = true := by simp [mc, AV.isBareAll, AV.isBare, vc_bare]
theorem mc_frz (m : List Blk) : AV.frzAll m (mc k v) = mc k v := by simp [mc, AV.frzAll, AV.frz, vc_frz]
theorem mc_res (m : List Blk) : AV.resAll m (mc k v) = mc k v := by simp [mc, AV.resAll, AV.res, vc_res]
theorem mc_mapId (f : Nat → Nat) : AV.mapIdAll f (mc k v) = mc k v := by simp [mc, AV.mapIdAll, AV.mapId, vc_mapId]
theorem mc_ids : AV.idsAll (mc k v) = [] := by simp [mc, AV.idsAll, AV.ids, vc_ids]
theorem mc_slices : AV.slicesAll (mc k v) = [] := by simp [mc, AV.slicesAll, AV.slices, vc_slices]
theorem mc_take1 : (mc k v).take 1 = [.v (.int .u8 k)] := by simp [mc]
theorem mc_tail (h : v.length = 16) : (mc k v).tail.take 16 = vc v := by
  simp only [mc, List.tail_cons]
  exact List.take_of_length_le (by simp [vc_length, h])
theorem mc_past (h : v.length = 16) : ((mc k v).drop 1).take 16 = vc v := by rw [List.drop_one]; exact mc_tail h
theorem mc_take17 (h : v.length = 16) : (mc k v).take 17 = mc k v := List.take_of_length_le (by rw [mc_length h]; omega)
theorem mc_all (h : v.length = 16) (h' : w.length = 16) : splice (mc k v) 0 (mc k' w) = mc k' w := by
  simp only [splice, List.take_zero, List.nil_append, mc_length h', Nat.zero_add]
  rw [List.drop_of_length_le (by rw [mc_length h]; omega), List.append_nil]
theorem mc_putk (k' : Int) : splice (mc k v) 0 [.v (.int .u8 k')] = mc k' v := by simp [splice, mc]
theorem mc_putv (h : v.length = 16) (h' : w.length = 16) : splice (mc k v) 1 (vc w) = mc k w := by
  simp only [splice, vc_length, h', mc, List.take_succ_cons, List.take_zero, List.drop_succ_cons]
  rw [List.drop_of_length_le (by simp [vc_length, h])]
  simp
theorem mc_at {i x : Nat} (hi : v[i]? = some x) : ((mc k v).drop (1 + i)).take 1 = [.v (.int .u16 x)] := by
  have hl : i < v.length := (List.getElem?_eq_some_iff.1 hi).1
  refine take_drop_one ?_
  rw [Nat.add_comm]
  simp only [mc, List.getElem?_cons_succ]
  rw [vc_get, hi]
  rfl
theorem mc_put (i x : Nat) (h : i < v.length) : splice (mc k v) (1 + i) [.v (.int .u16 x)] = mc k (v.set i x) := by
  have e := vc_splice v i x h
  simp only [splice, List.length_singleton] at e ⊢
  rw [Nat.add_comm 1 i]
  simp only [mc, List.take_succ_cons, List.drop_succ_cons]
  rw [← e]
  simp
theorem lit17 (k : Int) : [AV.v (.int .u8 k), AV.v (.int .u16 0), AV.v (.int .u16 0), AV.v (.int .u16 0), AV.v (.int .u16 0), AV.v (.int .u16 0), AV.v (.int .u16 0), AV.v (.int .u16 0), AV.v (.int .u16 0), AV.v (.int .u16 0), AV.v (.int .u16 0), AV.v (.int .u16 0), AV.v (.int .u16 0), AV.v (.int .u16 0), AV.v (.int .u16 0), AV.v (.int .u16 0), AV.v (.int .u16 0)] = mc k zV := rfl
theorem eqCells_17 (h1 : v.length = 16) (h2 : w.length = 16) : eqCells [.i, .i, .i, .i, .i, .i, .i, .i, .i, .i, .i, .i, .i, .i, .i, .i, .i] (mc k v) (mc k' w) = some (k == k' && eqV v w) := by
  have := eqCells_vc [] v w [] [] (by omega)
  rw [h1] at this
  simp only [List.replicate, List.append_nil] at this
  simp [mc, eqCells, this]
theorem vc_inj : ∀ {v w : List Nat}, vc v = vc w → v = w
  | [], [], _ => rfl
  | [], _ :: _, h => by simp [vc] at h
  | _ :: _, [], h => by simp [vc] at h
  | a :: v, b :: w, h => by
    rw [vc_cons, vc_cons] at h
    simp only [List.cons.injEq, AV.v.injEq, Value.int.injEq, true_and, Int.natCast_inj] at h
    rw [h.1, vc_inj h.2]
theorem mc_inj (h : mc k v = mc k' w) : k = k' ∧ v = w := by
  simp only [mc, List.cons.injEq, AV.v.injEq, Value.int.injEq, true_and] at h
  exact ⟨h.1, vc_inj h.2⟩
end
theorem vc_splice_lit (v : List Nat) (i n : Nat) (h : i < v.length) : splice (vc v) i [.v (.int .u16 (no_index (OfNat.ofNat n) : Int))] = vc (v.set i n) := vc_splice v i n h
theorem bc_put_lit {k : Int} {v : List Nat} {t : ByteArray} (i n : Nat) (h : i < v.length) : splice (bc k v t) (1 + i) [.v (.int .u16 (no_index (OfNat.ofNat n) : Int))] = bc k (v.set i n) t := bc_put i n h
attribute [simp] mc_length mc_one mc_bare mc_frz mc_res mc_mapId mc_ids mc_slices mc_take1 mc_tail mc_past mc_take17 eqCells_17
attribute [simp high] lit17 mc_all mc_putk mc_putv mc_put vc_splice_lit bc_put_lit
theorem vc_flat : ∀ l : List Nat, AV.flatAll (vc l) = true
  | [] => rfl
  | n :: l => by rw [vc_cons]; simp [AV.flatAll, AV.flat, vc_flat l]
theorem vc_lend (m : List Blk) : ∀ l : List Nat, AV.lendAll m (vc l) = vc l
  | [] => rfl
  | n :: l => by rw [vc_cons]; simp [AV.lendAll, AV.lend, vc_lend m l]
theorem mc_flat (k : Int) (v : List Nat) : AV.flatAll (mc k v) = true := by simp [mc, AV.flatAll, AV.flat, vc_flat]
theorem mc_lend (m : List Blk) (k : Int) (v : List Nat) : AV.lendAll m (mc k v) = mc k v := by simp [mc, AV.lendAll, AV.lend, vc_lend]
theorem bc_flat (k : Int) (v : List Nat) (t : ByteArray) : AV.flatAll (bc k v t) = true := by
  have h : ∀ l : List Nat, AV.flatAll (vc l ++ [AV.v (.string t)]) = true := fun l => by
    induction l with
    | nil => rfl
    | cons n l ih => rw [vc_cons]; simp [AV.flatAll, AV.flat, ih]
  simp [bc, AV.flatAll, AV.flat, h]
theorem bc_lend (m : List Blk) (k : Int) (v : List Nat) (t : ByteArray) : AV.lendAll m (bc k v t) = bc k v t := by
  have h : ∀ l : List Nat, AV.lendAll m (vc l ++ [AV.v (.string t)]) = vc l ++ [AV.v (.string t)] := fun l => by
    induction l with
    | nil => rfl
    | cons n l ih => rw [vc_cons]; simp [AV.lendAll, AV.lend, ih]
  simp [bc, AV.lendAll, AV.lend, h]
attribute [simp] vc_flat vc_lend mc_flat mc_lend bc_flat bc_lend
end Go.Proofs.YtjmgnodeohmboaaDoor.Am
