/-
  VECTORS AS CELLS: sixteen numbers in a row. No program is named here.
-/
import Derived.Test.YtajpaagbfmjacaaGreatDoorZQ3
import Derived.Test.YtajpaagbfmjacaaGreatDoorZQ4
import Derived.Test.YtajpaagbfmjacaaGreatDoorZQ5
namespace Go.Proofs.YtajpaagbfmjacaaGreatDoor.Am
set_option linter.unusedSimpArgs false
set_option linter.unusedVariables false
open Go Go.Proofs

def vc (l : List Nat) : List AV := l.map fun (n : Nat) => AV.v (.int .u16 n)
theorem vc_cons (n : Nat) (l : List Nat) : vc (n :: l) = .v (.int .u16 n) :: vc l := rfl
theorem vc_length (l : List Nat) : (vc l).length = l.length := by simp [vc]
theorem vc_drop (l : List Nat) (i : Nat) : (vc l).drop i = vc (l.drop i) := by simp [vc]
theorem vc_take (l : List Nat) (i : Nat) : (vc l).take i = vc (l.take i) := by simp [vc]
theorem vc_append (a b : List Nat) : vc a ++ vc b = vc (a ++ b) := by simp [vc]
theorem vc_get (l : List Nat) (i : Nat) : (vc l)[i]? = l[i]?.map fun (n : Nat) => AV.v (.int .u16 n) := by simp [vc]
theorem vc_one (l : List Nat) : (vc l).all AV.one = true := by simp [vc, AV.one, Value.oneCell']
theorem vc_bare : ∀ l : List Nat, AV.isBareAll (vc l) = true
  | [] => rfl
  | n :: l => by rw [vc_cons]; simp [AV.isBareAll, AV.isBare, vc_bare l]
theorem vc_frz (m : List Blk) : ∀ l : List Nat, AV.frzAll m (vc l) = vc l
  | [] => rfl
  | n :: l => by rw [vc_cons]; simp [AV.frzAll, AV.frz, vc_frz m l]
theorem vc_res (m : List Blk) : ∀ l : List Nat, AV.resAll m (vc l) = vc l
  | [] => rfl
  | n :: l => by rw [vc_cons]; simp [AV.resAll, AV.res, vc_res m l]
theorem vc_mapId (f : Nat → Nat) : ∀ l : List Nat, AV.mapIdAll f (vc l) = vc l
  | [] => rfl
  | n :: l => by rw [vc_cons]; simp [AV.mapIdAll, AV.mapId, vc_mapId f l]
theorem vc_ids : ∀ l : List Nat, AV.idsAll (vc l) = []
  | [] => rfl
  | n :: l => by rw [vc_cons]; simp [AV.idsAll, AV.ids, vc_ids l]
theorem vc_slices : ∀ l : List Nat, AV.slicesAll (vc l) = []
  | [] => rfl
  | n :: l => by rw [vc_cons]; simp [AV.slicesAll, AV.slices, vc_slices l]

theorem frzAll_append (m : List Blk) : ∀ a b : List AV, AV.frzAll m (a ++ b) = AV.frzAll m a ++ AV.frzAll m b
  | [], b => rfl
  | x :: a, b => by simp [AV.frzAll, frzAll_append m a b]
theorem resAll_append (m : List Blk) : ∀ a b : List AV, AV.resAll m (a ++ b) = AV.resAll m a ++ AV.resAll m b
  | [], b => rfl
  | x :: a, b => by simp [AV.resAll, resAll_append m a b]
theorem mapIdAll_append (f : Nat → Nat) : ∀ a b : List AV, AV.mapIdAll f (a ++ b) = AV.mapIdAll f a ++ AV.mapIdAll f b
  | [], b => rfl
  | x :: a, b => by simp [AV.mapIdAll, mapIdAll_append f a b]
theorem idsAll_append : ∀ a b : List AV, AV.idsAll (a ++ b) = AV.idsAll a ++ AV.idsAll b
  | [], b => rfl
  | x :: a, b => by simp [AV.idsAll, idsAll_append a b]
theorem slicesAll_append : ∀ a b : List AV, AV.slicesAll (a ++ b) = AV.slicesAll a ++ AV.slicesAll b
  | [], b => rfl
  | x :: a, b => by simp [AV.slicesAll, slicesAll_append a b]
theorem bareAll_append : ∀ a b : List AV, AV.isBareAll (a ++ b) = (AV.isBareAll a && AV.isBareAll b)
  | [], b => rfl
  | x :: a, b => by simp [AV.isBareAll, bareAll_append a b, Bool.and_assoc]

theorem set_split {α : Type} (x : α) : ∀ (l : List α) (i : Nat), i < l.length → l.set i x = l.take i ++ [x] ++ l.drop (i + 1)
  | [], i, h => by simp at h
  | y :: l, 0, _ => by simp
  | y :: l, i + 1, h => by simp only [List.length_cons] at h; simp [set_split x l i (by omega)]

theorem take_drop_one {α : Type} {l : List α} {i : Nat} {x : α} (h : l[i]? = some x) : (l.drop i).take 1 = [x] := by
  rw [List.take_one, List.head?_drop, h]; rfl

/-- One cell of a vector, written. -/
theorem vc_splice (v : List Nat) (i x : Nat) (h : i < v.length) : splice (vc v) i [.v (.int .u16 x)] = vc (v.set i x) := by
  have e : vc [x] = [.v (.int .u16 x)] := rfl
  simp only [splice, List.length_singleton, vc_take, vc_drop, ← e, vc_append, vc_length, set_split x v i h]

/-! ### A number, a vector, a text -/
def bc (k : Int) (v : List Nat) (t : ByteArray) : List AV := .v (.int .i64 k) :: (vc v ++ [.v (.string t)])
section
variable {k : Int} {v w : List Nat} {t : ByteArray}
theorem bc_length (h : v.length = 16) : (bc k v t).length = 18 := by simp [bc, vc_length, h]
theorem bc_one : (bc k v t).all AV.one = true := by simp [bc, vc_one, AV.one, Value.oneCell']
theorem bc_bare : AV.isBareAll (bc k v t) = true := by simp [bc, AV.isBareAll, AV.isBare, bareAll_append, vc_bare]
theorem bc_frz (m : List Blk) : AV.frzAll m (bc k v t) = bc k v t := by simp [bc, AV.frzAll, AV.frz, frzAll_append, vc_frz]
theorem bc_res (m : List Blk) : AV.resAll m (bc k v t) = bc k v t := by simp [bc, AV.resAll, AV.res, resAll_append, vc_res]
theorem bc_mapId (f : Nat → Nat) : AV.mapIdAll f (bc k v t) = bc k v t := by simp [bc, AV.mapIdAll, AV.mapId, mapIdAll_append, vc_mapId]
theorem bc_ids : AV.idsAll (bc k v t) = [] := by simp [bc, AV.idsAll, AV.ids, idsAll_append, vc_ids]
theorem bc_slices : AV.slicesAll (bc k v t) = [] := by simp [bc, AV.slicesAll, AV.slices, slicesAll_append, vc_slices]
theorem bc_take1 : (bc k v t).take 1 = [.v (.int .i64 k)] := by simp [bc]
theorem bc_past (h : v.length = 16) : ((bc k v t).drop 1).take 16 = vc v := by
  simp only [bc, List.drop_succ_cons, List.drop_zero]
  rw [List.take_append_of_le_length (by simp [vc_length, h]), List.take_of_length_le (by simp [vc_length, h])]
theorem bc_text (h : v.length = 16) : ((bc k v t).drop 17).take 1 = [.v (.string t)] := by
  simp only [bc, List.drop_succ_cons]
  rw [List.drop_append_of_le_length (by simp [vc_length, h]), List.drop_of_length_le (by simp [vc_length, h])]
  rfl
theorem bc_at {i x : Nat} (hi : v[i]? = some x) : ((bc k v t).drop (1 + i)).take 1 = [.v (.int .u16 x)] := by
  have hl : i < v.length := (List.getElem?_eq_some_iff.1 hi).1
  refine take_drop_one ?_
  rw [Nat.add_comm]
  simp only [bc, List.getElem?_cons_succ]
  rw [List.getElem?_append_left (by rw [vc_length]; exact hl), vc_get, hi]
  rfl
theorem bc_put (i x : Nat) (h : i < v.length) : splice (bc k v t) (1 + i) [.v (.int .u16 x)] = bc k (v.set i x) t := by
  have e := vc_splice v i x h
  simp only [splice, List.length_singleton] at e ⊢
  rw [Nat.add_comm 1 i]
  simp only [bc, List.take_succ_cons, List.drop_succ_cons]
  rw [List.take_append_of_le_length (by rw [vc_length]; omega), List.drop_append_of_le_length (by rw [vc_length]; omega), ← e]
  simp
theorem bc_putv (h : v.length = 16) (h' : w.length = 16) : splice (bc k v t) 1 (vc w) = bc k w t := by
  simp only [splice, vc_length, h', bc, List.take_succ_cons, List.take_zero, List.drop_succ_cons]
  rw [List.drop_append_of_le_length (by simp [vc_length, h]), List.drop_of_length_le (by simp [vc_length, h])]
  simp
theorem bc_putk (k' : Int) : splice (bc k v t) 0 [.v (.int .i64 k')] = bc k' v t := by simp [splice, bc]
theorem bc_putt (h : v.length = 16) (t' : ByteArray) : splice (bc k v t) 17 [.v (.string t')] = bc k v t' := by
  simp only [splice, bc, List.take_succ_cons, List.drop_succ_cons, List.length_singleton]
  rw [List.take_append_of_le_length (by simp [vc_length, h]), List.take_of_length_le (by simp [vc_length, h])]
  rw [List.drop_of_length_le (by simp [vc_length, h])]
  simp
end

/-! ### Are they the same? -/
def eqV : List Nat → List Nat → Bool
  | a :: l, b :: m => ((a : Int) == (b : Int)) && eqV l m
  | _, _ => true
theorem eqV_iff : ∀ {l m : List Nat}, l.length = m.length → (eqV l m = true ↔ l = m)
  | [], [], _ => by simp [eqV]
  | a :: l, b :: m, h => by
    simp only [List.length_cons] at h
    simp only [eqV, Bool.and_eq_true, beq_iff_eq, List.cons.injEq, Int.natCast_inj, eqV_iff (l := l) (m := m) (by omega)]
  | [], _ :: _, h => by simp at h
  | _ :: _, [], h => by simp at h
theorem eqV_self (l : List Nat) : eqV l l = true := (eqV_iff rfl).2 rfl
theorem eqCells_vc (ks : List EK) : ∀ (l m : List Nat) (r s : List AV), l.length = m.length → eqCells (List.replicate l.length .i ++ ks) (vc l ++ r) (vc m ++ s) = (eqCells ks r s).map (eqV l m && ·)
  | [], [], r, s, _ => by simp [vc, eqV]
  | a :: l, b :: m, r, s, h => by
    simp only [List.length_cons] at h
    simp only [List.length_cons, List.replicate_succ, List.cons_append, vc_cons, eqCells, eqV, if_true]
    rw [eqCells_vc ks l m r s (by omega)]
    cases eqCells ks r s <;> simp [Bool.and_assoc]
  | [], _ :: _, r, s, h => by simp at h
  | _ :: _, [], r, s, h => by simp at h
theorem eqCells_16 {l m : List Nat} (h1 : l.length = 16) (h2 : m.length = 16) : eqCells [.i, .i, .i, .i, .i, .i, .i, .i, .i, .i, .i, .i, .i, .i, .i, .i] (vc l) (vc m) = some (eqV l m) := by
  have := eqCells_vc [] l m [] [] (by omega)
  rw [h1] at this
  simpa [List.replicate, eqCells] using this
theorem eqCells_18 {k k' : Int} {l m : List Nat} {t t' : ByteArray} (h1 : l.length = 16) (h2 : m.length = 16) :
    eqCells [.i, .i, .i, .i, .i, .i, .i, .i, .i, .i, .i, .i, .i, .i, .i, .i, .i, .s] (bc k l t) (bc k' m t') = some (k == k' && (eqV l m && t == t')) := by
  have := eqCells_vc [.s] l m [.v (.string t)] [.v (.string t')] (by omega)
  rw [h1] at this
  simp only [List.replicate, List.cons_append, List.nil_append] at this
  simp [bc, eqCells, this]

/-! ### As arguments, and as zeros -/
def unVc : List AV → Option (List Nat)
  | [] => some []
  | .v (.int .u16 n) :: r => if 0 ≤ n then (unVc r).map fun l => n.toNat :: l else none
  | _ => none
theorem unVc_vc : ∀ l : List Nat, unVc (vc l) = some l
  | [] => rfl
  | n :: l => by simp [vc_cons, unVc, unVc_vc l]
theorem unVc_some : ∀ {cs : List AV} {l : List Nat}, unVc cs = some l → cs = vc l
  | [], l, h => by simp [unVc] at h; subst h; rfl
  | c :: r, l, h => by
    unfold unVc at h
    split at h
    · rename_i heq; cases heq
    · rename_i n r' heq
      cases heq
      split at h
      · rename_i hn
        obtain ⟨l', hl', rfl⟩ := Option.map_eq_some_iff.1 h
        rw [unVc_some hl', vc_cons, Int.toNat_of_nonneg hn]
      · cases h
    · cases h
def zV : List Nat := List.replicate 16 0
theorem zV_length : zV.length = 16 := by simp [zV]
theorem lit16 : [AV.v (.int .u16 0), AV.v (.int .u16 0), AV.v (.int .u16 0), AV.v (.int .u16 0), AV.v (.int .u16 0), AV.v (.int .u16 0), AV.v (.int .u16 0), AV.v (.int .u16 0), AV.v (.int .u16 0), AV.v (.int .u16 0), AV.v (.int .u16 0), AV.v (.int .u16 0), AV.v (.int .u16 0), AV.v (.int .u16 0), AV.v (.int .u16 0), AV.v (.int .u16 0)] = vc zV := rfl
theorem lit18 (k : Int) (t : ByteArray) : [AV.v (.int .i64 k), AV.v (.int .u16 0), AV.v (.int .u16 0), AV.v (.int .u16 0), AV.v (.int .u16 0), AV.v (.int .u16 0), AV.v (.int .u16 0), AV.v (.int .u16 0), AV.v (.int .u16 0), AV.v (.int .u16 0), AV.v (.int .u16 0), AV.v (.int .u16 0), AV.v (.int .u16 0), AV.v (.int .u16 0), AV.v (.int .u16 0), AV.v (.int .u16 0), AV.v (.int .u16 0), AV.v (.string t)] = bc k zV t := rfl
theorem vc_take16 {v : List Nat} (h : v.length = 16) : (vc v).take 16 = vc v := by rw [List.take_of_length_le (by rw [vc_length]; omega)]
theorem bc_take18 {k : Int} {v : List Nat} {t : ByteArray} (h : v.length = 16) : (bc k v t).take 18 = bc k v t := by rw [List.take_of_length_le (by rw [bc_length h]; omega)]
theorem vc_all {v w : List Nat} (h : v.length = w.length) : splice (vc v) 0 (vc w) = vc w := by
  simp [splice, vc_length, ← h]
theorem bc_all {k k' : Int} {v w : List Nat} {t t' : ByteArray} (h : v.length = 16) (h' : w.length = 16) : splice (bc k v t) 0 (bc k' w t') = bc k' w t' := by
  simp only [splice, List.take_zero, List.nil_append, bc_length h', Nat.zero_add]
  rw [List.drop_of_length_le (by rw [bc_length h]; omega), List.append_nil]
def unB : List AV → Option (Int × List Nat × ByteArray)
  | .v (.int .i64 k) :: r => match r.getLast? with
    | some (.v (.string t)) => (unVc r.dropLast).map fun v => (k, v, t)
    | _ => none
  | _ => none
theorem unB_bc (k : Int) (v : List Nat) (t : ByteArray) : unB (bc k v t) = some (k, v, t) := by
  simp [unB, bc, unVc_vc]
theorem unB_some {cs : List AV} {k : Int} {v : List Nat} {t : ByteArray} (h : unB cs = some (k, v, t)) : cs = bc k v t := by
  unfold unB at h
  split at h
  case h_2 => cases h
  rename_i k' r
  split at h
  case h_2 => cases h
  rename_i t' hl
  obtain ⟨v', hv', h2⟩ := Option.map_eq_some_iff.1 h
  cases h2
  have := unVc_some hv'
  rw [bc, ← this]
  congr 1
  obtain ⟨hne, hlast⟩ := List.getLast?_eq_some_iff.1 hl
  rw [hlast]
  simp
attribute [simp] vc_length vc_drop vc_take vc_append vc_one vc_bare vc_frz vc_res vc_mapId vc_ids vc_slices bc_length bc_one bc_bare bc_frz bc_res bc_mapId bc_ids bc_slices bc_take1 bc_past bc_text unVc_vc unB_bc zV_length vc_take16 bc_take18 eqCells_16 eqCells_18 eqV_self
attribute [simp high] lit16 lit18 vc_splice bc_put bc_putv bc_putk bc_putt vc_all bc_all
theorem vc_single (n : Nat) : vc [n] = [.v (.int .u16 n)] := rfl
attribute [simp] vc_single
theorem splice_eq (cs : List AV) (o : Nat) (new : List AV) : splice cs o new = cs.take o ++ new ++ cs.drop (o + new.length) := rfl
attribute [simp low] splice_eq
theorem l16 {v : List Nat} (h : v.length = 16) : v.take 16 = v := List.take_of_length_le (by omega)
theorem bc_tail {k : Int} {v : List Nat} {t : ByteArray} (h : v.length = 16) : (bc k v t).tail.take 16 = vc v := by rw [← bc_past (k := k) (t := t) h, List.drop_one]
attribute [simp] l16 oneOr resAll res1 bc_tail
end Go.Proofs.YtajpaagbfmjacaaGreatDoor.Am
/-
  BODIES AND VECTORS, plainly: no program in sight.
-/
namespace Go.Proofs.YtajpaagbfmjacaaGreatDoor.Am
set_option linter.unusedSimpArgs false
set_option linter.unusedVariables false
open Go

/-! ### Vectors -/
def okV (v : List Nat) : Prop := v.length = 16 ∧ ∀ n ∈ v, n < 65536
theorem okV_at {v : List Nat} {i x : Nat} (h : okV v) (hi : v[i]? = some x) : x < 65536 := h.2 x (List.mem_of_getElem? hi)
def joinV : List Nat → List Nat → List Nat
  | a :: l, b :: m => max a b :: joinV l m
  | _, _ => []
def belowV : List Nat → List Nat → Bool
  | a :: l, b :: m => decide (a ≤ b) && belowV l m
  | _, _ => true
theorem joinV_length : ∀ {a b : List Nat}, a.length = b.length → (joinV a b).length = a.length
  | [], [], _ => rfl
  | x :: a, y :: b, h => by simp only [List.length_cons] at h; simp [joinV, joinV_length (a := a) (b := b) (by omega)]
  | [], _ :: _, h => by simp at h
  | _ :: _, [], h => by simp at h
theorem joinV_get : ∀ {a b : List Nat} {i x y : Nat}, a[i]? = some x → b[i]? = some y → (joinV a b)[i]? = some (max x y)
  | x :: a, y :: b, 0, _, _, h1, h2 => by simp at h1 h2; simp [joinV, h1, h2]
  | _ :: a, _ :: b, i + 1, _, _, h1, h2 => by simp at h1 h2; simp [joinV, joinV_get h1 h2]
theorem joinV_lt : ∀ {a b : List Nat}, (∀ n ∈ a, n < 65536) → (∀ n ∈ b, n < 65536) → ∀ n ∈ joinV a b, n < 65536
  | [], b, _, _, n, hn => by cases b <;> simp [joinV] at hn
  | _ :: _, [], _, _, n, hn => by simp [joinV] at hn
  | x :: a, y :: b, h1, h2, n, hn => by
    simp only [joinV, List.mem_cons] at hn
    rcases hn with rfl | hn
    · have := h1 x (by simp); have := h2 y (by simp); omega
    · exact joinV_lt (fun n hn => h1 n (by simp [hn])) (fun n hn => h2 n (by simp [hn])) n hn
theorem okV_join {a b : List Nat} (ha : okV a) (hb : okV b) : okV (joinV a b) := ⟨by rw [joinV_length (by rw [ha.1, hb.1]), ha.1], joinV_lt ha.2 hb.2⟩
theorem belowV_no : ∀ {a b : List Nat} {i x y : Nat}, a[i]? = some x → b[i]? = some y → y < x → belowV a b = false
  | x :: a, y :: b, 0, _, _, h1, h2, h => by
    simp at h1 h2; subst h1; subst h2
    simp only [belowV, decide_eq_false (show ¬ x ≤ y by omega), Bool.false_and]
  | _ :: a, _ :: b, i + 1, _, _, h1, h2, h => by simp at h1 h2; simp [belowV, belowV_no h1 h2 h]
theorem belowV_yes : ∀ {a b : List Nat}, (∀ (i x y : Nat), a[i]? = some x → b[i]? = some y → x ≤ y) → belowV a b = true
  | [], _, _ => rfl
  | _ :: _, [], _ => rfl
  | x :: a, y :: b, h => by
    simp only [belowV, Bool.and_eq_true, decide_eq_true_eq]
    exact ⟨h 0 x y rfl rfl, belowV_yes fun i x y h1 h2 => h (i + 1) x y h1 h2⟩
theorem below_join : ∀ {a b : List Nat}, a.length = b.length → eqV (joinV a b) b = belowV a b
  | [], [], _ => rfl
  | x :: a, y :: b, h => by
    simp only [List.length_cons] at h
    have := below_join (a := a) (b := b) (by omega)
    simp only [joinV, eqV, belowV, this]
    congr 1
    rw [Bool.eq_iff_iff]; simp; omega
  | [], _ :: _, h => by simp at h
  | _ :: _, [], h => by simp at h
theorem belowV_iff : ∀ {a b : List Nat}, a.length = b.length → (belowV a b = true ↔ joinV a b = b)
  | [], [], _ => by simp [belowV, joinV]
  | x :: a, y :: b, h => by
    simp only [List.length_cons] at h
    have := belowV_iff (a := a) (b := b) (by omega)
    simp only [belowV, joinV, Bool.and_eq_true, decide_eq_true_eq, this, List.cons.injEq]
    constructor
    · rintro ⟨h1, h2⟩; exact ⟨by omega, h2⟩
    · rintro ⟨h1, h2⟩; exact ⟨by omega, h2⟩
  | [], _ :: _, h => by simp at h
  | _ :: _, [], h => by simp at h
theorem joinV_comm : ∀ (a b : List Nat), joinV a b = joinV b a
  | [], b => by cases b <;> rfl
  | _ :: _, [] => rfl
  | x :: a, y :: b => by simp [joinV, joinV_comm a b, Nat.max_comm]
theorem joinV_self : ∀ (a : List Nat), joinV a a = a
  | [] => rfl
  | x :: a => by simp [joinV, joinV_self a]
theorem joinV_assoc : ∀ (a b c : List Nat), joinV (joinV a b) c = joinV a (joinV b c)
  | [], b, c => by cases b <;> cases c <;> rfl
  | _ :: _, [], c => by cases c <;> rfl
  | _ :: _, _ :: _, [] => rfl
  | x :: a, y :: b, z :: c => by simp [joinV, joinV_assoc a b c, Nat.max_assoc]
theorem below_left : ∀ (a b : List Nat), belowV a (joinV a b) = true
  | [], _ => by cases ‹List Nat› <;> rfl
  | _ :: _, [] => rfl
  | x :: a, y :: b => by simp [joinV, belowV, below_left a b]; omega
theorem below_right (a b : List Nat) : belowV b (joinV a b) = true := by rw [joinV_comm]; exact below_left b a
theorem below_least : ∀ {a b : List Nat}, a.length = b.length → ∀ c : List Nat, b.length = c.length → belowV (joinV a b) c = (belowV a c && belowV b c)
  | [], [], _, _, _ => rfl
  | x :: a, y :: b, h, [], h2 => by simp at h2
  | x :: a, y :: b, h, z :: c, h2 => by
    simp only [List.length_cons] at h h2
    simp only [joinV, belowV, below_least (a := a) (b := b) (by omega) c (by omega)]
    rw [Bool.eq_iff_iff]; simp; constructor
    · rintro ⟨h1, h2, h3⟩; exact ⟨⟨by omega, h2⟩, by omega, h3⟩
    · rintro ⟨⟨h1, h2⟩, h3, h4⟩; exact ⟨by omega, h2, h4⟩
  | [], _ :: _, h, _, _ => by simp at h
  | _ :: _, [], h, _, _ => by simp at h
theorem below_trans : ∀ {a b c : List Nat}, a.length = b.length → b.length = c.length → belowV a b = true → belowV b c = true → belowV a c = true
  | [], _, _, _, _, _, _ => rfl
  | x :: a, y :: b, z :: c, h, h2, h3, h4 => by
    simp only [List.length_cons] at h h2
    simp only [belowV, Bool.and_eq_true, decide_eq_true_eq] at h3 h4 ⊢
    exact ⟨by omega, below_trans (by omega) (by omega) h3.2 h4.2⟩
  | _ :: _, [], _, h, _, _, _ => by simp at h
  | _ :: _, _ :: _, [], _, h, _, _ => by simp at h
theorem below_both {a b : List Nat} (h : a.length = b.length) (h1 : belowV a b = true) : belowV b a = eqV a b := by
  have e1 := (belowV_iff h).1 h1
  rw [Bool.eq_iff_iff, belowV_iff h.symm, eqV_iff h, joinV_comm, e1]
  exact eq_comm
theorem below_self (a : List Nat) : belowV a a = true := by have := below_left a a; rwa [joinV_self] at this
theorem below_zero : ∀ (k : Nat) (a : List Nat), belowV (List.replicate k 0) a = true
  | 0, _ => rfl
  | k + 1, [] => rfl
  | k + 1, x :: a => by simp [List.replicate_succ, belowV, below_zero k a]

/-! ### Bodies -/
structure Bdy where
  kind : Int
  past : List Nat
  text : ByteArray
def Bdy.ok (b : Bdy) : Prop := okV b.past
def avB9 (b : Bdy) : AV := .agg (bc b.kind b.past b.text)
def allB (v : List Nat) : Bool := v.all fun n => decide (n ≤ 1000)
def mayB (b : Bdy) : Bool := allB b.past && decide (1 ≤ b.kind ∧ b.kind ≤ 3 ∧ b.text.size ≤ 400)
theorem mayB_iff (b : Bdy) : mayB b = true ↔ (∀ n ∈ b.past, n ≤ 1000) ∧ 1 ≤ b.kind ∧ b.kind ≤ 3 ∧ b.text.size ≤ 400 := by simp [mayB, allB]
theorem allB_no {v : List Nat} {i x : Nat} (hi : v[i]? = some x) (h : 1000 < x) : allB v = false := by
  rw [← Bool.not_eq_true]
  intro hh
  have := List.all_eq_true.1 hh x (List.mem_of_getElem? hi)
  simp at this
  omega

def nF (n : Nat) : Fld := ⟨1, n, ⟨#[]⟩, 0⟩
def tF (t : ByteArray) : Fld := ⟨2, 0, t, 0⟩
def bdL (b : Bdy) : List Fld := nF b.kind.toNat :: (b.past.map nF ++ [tF b.text])
def zeroB : Bdy := ⟨0, List.replicate 16 0, ⟨#[]⟩⟩

theorem may_nF (n : Nat) : may (nF n) = true := by
  have : ((⟨#[]⟩ : ByteArray) == ⟨#[]⟩) = true := by decide
  simp [may, nF, this]
theorem may_tF {t : ByteArray} (h : t.size ≤ 2000) : may (tF t) = true := by simp [may, tF, h]
theorem enc_nF {n : Nat} (h : n < 65536) : (encF (nF n)).length ≤ 4 := by
  have := (nlen_le 2 n).2 (by omega)
  simp [encF, nF, numB_length]; omega
theorem enc_tF {t : ByteArray} (h : t.size ≤ 900) : (encF (tF t)).length ≤ 904 := by
  have := (nlen_le 2 t.size).2 (by omega)
  simp [encF, tF, numB_length, tb_length]; omega
theorem flat_nF : ∀ {l : List Nat}, (∀ n ∈ l, n < 65536) → (flatE (l.map nF)).length ≤ 4 * l.length
  | [], _ => by simp [flatE]
  | n :: l, h => by
    have h1 := enc_nF (h n (by simp))
    have h2 := flat_nF (l := l) (fun m hm => h m (by simp [hm]))
    simp only [List.map_cons, flatE, List.length_append, List.length_cons]; omega

theorem bdy_may {b : Bdy} (h : mayB b = true) : ∀ g ∈ bdL b, may g = true ∧ g.ok = true := by
  rw [mayB_iff] at h
  intro g hg
  simp only [bdL, List.mem_cons, List.mem_append, List.mem_map, List.not_mem_nil, or_false] at hg
  rcases hg with rfl | ⟨n, hn, rfl⟩ | rfl
  · exact ⟨may_nF _, by rw [Fld.ok_iff]; simp only [nF]; omega⟩
  · have := h.1 n hn
    exact ⟨may_nF _, by rw [Fld.ok_iff]; simp only [nF]; omega⟩
  · exact ⟨may_tF (by omega), by rw [Fld.ok_iff]; simp only [tF]; omega⟩
theorem bdy_len {b : Bdy} (h : mayB b = true) (ho : okV b.past) : (encAll (bdL b)).length ≤ 8000 := by
  rw [mayB_iff] at h
  have h1 := enc_nF (n := b.kind.toNat) (by omega)
  have h2 := flat_nF ho.2
  have h3 := enc_tF (t := b.text) (by omega)
  rw [ho.1] at h2
  simp only [encAll, bdL, flatE, flatE_append, List.length_cons, List.length_append, List.length_nil]
  omega
theorem bdL_length {b : Bdy} (ho : okV b.past) : (bdL b).length = 18 := by simp [bdL, ho.1]
theorem bdy_enc {b : Bdy} (h : mayB b = true) (ho : okV b.past) : encE (bdL b) = 0 :=
  encE_of (fun g hg => (bdy_may h g hg).1) (by rw [bdL_length ho]; omega) (bdy_len h ho)
theorem bdy_ok {b : Bdy} (h : mayB b = true) : ∀ g ∈ bdL b, g.ok = true := fun g hg => (bdy_may h g hg).2

def bdOf : List Fld → Bdy
  | a :: l => ⟨a.num, (l.take 16).map Fld.num, (l.getLastD ⟨0, 0, ⟨#[]⟩, 0⟩).text⟩
  | [] => zeroB
theorem bdOf_bdL {b : Bdy} (h : mayB b = true) (ho : okV b.past) : bdOf (bdL b) = b := by
  rw [mayB_iff] at h
  cases b with
  | mk k v t =>
    simp only at h ho
    simp only [bdOf, bdL, Bdy.mk.injEq]
    refine ⟨by simp only [nF]; omega, ?_, ?_⟩
    · rw [List.take_append_of_le_length (by simp [ho.1]), List.take_of_length_le (by simp [ho.1]), List.map_map]
      have : Fld.num ∘ nF = id := rfl
      rw [this, List.map_id]
    · simp [tF]

def bdS (b : Bdy) : ByteArray := if mayB b = true then ⟨(enc (bdL b)).toArray⟩ else ⟨#[]⟩
def bdE (b : Bdy) : Nat := if mayB b = true then 0 else 2
def bdK : List Int := List.replicate 17 1 ++ [2]

/-- The body of bytes. -/
def bdDec (s : ByteArray) : Option Bdy := (dec (tb s)).bind fun l => if l.map Fld.kind = bdK ∧ mayB (bdOf l) = true then some (bdOf l) else none
def bdF (s : ByteArray) : Bdy := (bdDec s).getD zeroB
def bdG (s : ByteArray) : Nat := if (bdDec s).isSome then 0 else 4

theorem nF_of {f : Fld} (h : may f = true) (hk : f.kind = 1) : f = nF f.num := by
  cases f
  simp only at hk
  subst hk
  simp only [may, Bool.or_eq_true, Bool.and_eq_true, beq_iff_eq, beq_bytes4] at h
  simp only [nF, Fld.mk.injEq, true_and]
  rcases h with h | h | h
  · exact ⟨h.2.1, h.2.2⟩
  · omega
  · omega
theorem tF_of {f : Fld} (h : may f = true) (hk : f.kind = 2) : f = tF f.text := by
  have := may_text h hk
  cases f
  simp only at hk this
  simp [tF, hk, this.1, this.2.1]
theorem ones_of : ∀ {l : List Fld}, (∀ f ∈ l, may f = true) → (∀ f ∈ l, f.kind = 1) → l = (l.map Fld.num).map nF
  | [], _, _ => rfl
  | f :: l, h1, h2 => by
    simp only [List.map_cons, List.cons.injEq]
    exact ⟨nF_of (h1 f (by simp)) (h2 f (by simp)), ones_of (fun g hg => h1 g (by simp [hg])) (fun g hg => h2 g (by simp [hg]))⟩

theorem kinds_bd {l : List Fld} (h : l.map Fld.kind = bdK) (hm : ∀ f ∈ l, may f = true) : ∃ (k : Nat) (v : List Nat) (t : ByteArray), v.length = 16 ∧ l = nF k :: (v.map nF ++ [tF t]) := by
  have hlen : l.length = 18 := by have := congrArg List.length h; simpa [bdK] using this
  match l, hlen with
  | a :: l, hlen =>
    simp only [List.length_cons] at hlen
    obtain ⟨e, he⟩ : ∃ e, l[16]? = some e := ⟨_, List.getElem?_eq_getElem (by omega)⟩
    have hl : l = l.take 16 ++ [e] := by
      rw [← take_snoc he, List.take_of_length_le (by omega)]
    have hk : ∀ (i : Nat) (x : Fld), (a :: l)[i]? = some x → bdK[i]? = some x.kind := fun i x hx => by rw [← h, List.getElem?_map, hx]; rfl
    have ha : a.kind = 1 := by have := hk 0 a rfl; simpa [bdK, List.replicate] using this.symm
    have hek : e.kind = 2 := by have := hk 17 e he; simpa [bdK, List.replicate] using this.symm
    have hones : ∀ f ∈ l.take 16, f.kind = 1 := by
      intro f hf
      obtain ⟨i, hi⟩ := List.mem_iff_getElem?.1 hf
      have hi16 : i < 16 := by
        have := (List.getElem?_eq_some_iff.1 hi).1
        simp at this; omega
      rw [List.getElem?_take_of_lt hi16] at hi
      have := hk (i + 1) f hi
      rw [bdK, List.getElem?_append_left (by simp; omega), List.getElem?_replicate, if_pos (by omega)] at this
      simpa using this.symm
    refine ⟨a.num, (l.take 16).map Fld.num, e.text, by simp; omega, ?_⟩
    rw [← nF_of (hm a (by simp)) ha, ← ones_of (fun f hf => hm f (List.mem_cons_of_mem _ (List.mem_of_mem_take hf))) hones, ← tF_of (hm e (List.mem_cons_of_mem _ (List.mem_of_getElem? he))) hek, ← hl]

theorem bdOf_mk {k : Nat} {v : List Nat} {t : ByteArray} (h : v.length = 16) : bdOf (nF k :: (v.map nF ++ [tF t])) = ⟨k, v, t⟩ := by
  simp only [bdOf, Bdy.mk.injEq]
  refine ⟨rfl, ?_, by simp [tF]⟩
  rw [List.take_append_of_le_length (by simp [h]), List.take_of_length_le (by simp [h]), List.map_map]
  have : Fld.num ∘ nF = id := rfl
  rw [this, List.map_id]

theorem bdL_kinds {b : Bdy} (ho : okV b.past) : (bdL b).map Fld.kind = bdK := by
  have e : (b.past.map nF).map Fld.kind = List.replicate 16 1 := by
    rw [List.map_map, List.eq_replicate_iff]
    refine ⟨by simp [ho.1], ?_⟩
    intro x hx
    obtain ⟨n, _, rfl⟩ := List.mem_map.1 hx
    rfl
  simp only [bdL, List.map_cons, List.map_append, e, List.map_nil]
  rfl

theorem bdDec_iff (s : ByteArray) (b : Bdy) : bdDec s = some b ↔ mayB b = true ∧ okV b.past ∧ dec (tb s) = some (bdL b) := by
  constructor
  · intro h
    obtain ⟨l, hl, h2⟩ := Option.bind_eq_some_iff.1 h
    obtain ⟨⟨hk, hr⟩, h3⟩ := if_some h2
    cases h3
    obtain ⟨h1, -, -⟩ := enc_dec hl
    obtain ⟨k, v, t, hv, rfl⟩ := kinds_bd hk (encE_zero h1).1
    rw [bdOf_mk hv] at hr ⊢
    have hb := (mayB_iff _).1 hr
    refine ⟨hr, ⟨hv, fun n hn => ?_⟩, ?_⟩
    · have := hb.1 n hn; omega
    · rw [hl]; simp [bdL]
  · rintro ⟨hr, h0, hd⟩
    unfold bdDec
    rw [hd, Option.bind_some, if_pos ⟨bdL_kinds h0, by rw [bdOf_bdL hr h0]; exact hr⟩, bdOf_bdL hr h0]

theorem bdDec_enc {b : Bdy} (hr : mayB b = true) (h0 : okV b.past) : bdDec ⟨(enc (bdL b)).toArray⟩ = some b :=
  (bdDec_iff _ _).2 ⟨hr, h0, by rw [tb_mk]; exact dec_enc (bdy_enc hr h0) (bdy_ok hr)⟩
theorem enc_bdDec {s : ByteArray} {b : Bdy} (h : bdDec s = some b) : mayB b = true ∧ okV b.past ∧ (⟨(enc (bdL b)).toArray⟩ : ByteArray) = s := by
  obtain ⟨h1, h2, h3⟩ := (bdDec_iff _ _).1 h
  exact ⟨h1, h2, by rw [(enc_dec h3).2.1, mk_tb]⟩
theorem bdy_inj {a b : Bdy} (h1 : mayB a = true) (h2 : mayB b = true) (o1 : okV a.past) (o2 : okV b.past) (h : enc (bdL a) = enc (bdL b)) : a = b := by
  have e1 := bdDec_enc h1 o1
  rw [h, bdDec_enc h2 o2] at e1
  exact (Option.some.inj e1).symm

/-! ### As it is clipped -/
def clipP (m : Nat) (l : List Nat) : List Nat := l.map fun n => min n m
theorem clipP_length (m : Nat) (l : List Nat) : (clipP m l).length = l.length := by simp [clipP]
theorem clipP_get {m : Nat} {l : List Nat} {i x : Nat} (h : l[i]? = some x) : (clipP m l)[i]? = some (min x m) := by simp [clipP, h]
theorem clipP_le {m : Nat} {l : List Nat} : ∀ n ∈ clipP m l, n ≤ m := by
  intro n hn
  obtain ⟨k, _, rfl⟩ := List.mem_map.1 hn
  exact Nat.min_le_right _ _
theorem clipP_id {m : Nat} : ∀ {l : List Nat}, (∀ n ∈ clipP m l, n < m) → clipP m l = l
  | [], _ => rfl
  | x :: l, h => by
    have h1 := h (min x m) (by simp [clipP])
    have h2 := clipP_id (m := m) (l := l) (fun n hn => h n (by simp only [clipP, List.map_cons, List.mem_cons] at hn ⊢; exact Or.inr hn))
    simp only [clipP, List.map_cons, List.cons.injEq] at h2 ⊢
    exact ⟨by omega, h2⟩
theorem clipP_small {m : Nat} : ∀ {l : List Nat}, (∀ n ∈ l, n ≤ m) → clipP m l = l
  | [], _ => rfl
  | x :: l, h => by
    have h1 := h x (by simp)
    have h2 := clipP_small (m := m) (l := l) (fun n hn => h n (by simp [hn]))
    simp only [clipP, List.map_cons, List.cons.injEq] at h2 ⊢
    exact ⟨by omega, h2⟩

theorem bdDec_clip1 {s : ByteArray} {k : Nat} {v : List Nat} {t : ByteArray} (hv : v.length = 16) (h : dec (tb s) = some (nF k :: (v.map nF ++ [tF t]))) :
    bdDec s = if mayB ⟨(min k 4 : Nat), clipP 1001 v, t⟩ = true then some ⟨(min k 4 : Nat), clipP 1001 v, t⟩ else none := by
  have hkk : (nF k :: (v.map nF ++ [tF t])).map Fld.kind = bdK := by
    have := bdL_kinds (b := ⟨k, v.map fun _ => 0, t⟩) ⟨by simp [hv], by intro n hn; simp at hn; omega⟩
    rw [← this]
    simp [bdL, nF, tF, Function.comp_def]
  unfold bdDec
  rw [h, Option.bind_some, bdOf_mk hv]
  by_cases hr : mayB ⟨(min k 4 : Nat), clipP 1001 v, t⟩ = true
  · have h1 := (mayB_iff _).1 hr
    simp only at h1
    have e1 : clipP 1001 v = v := clipP_id fun n hn => by have := h1.1 n hn; omega
    have e2 : min k 4 = k := by omega
    rw [e1, e2] at hr ⊢
    rw [if_pos hr, if_pos ⟨hkk, hr⟩]
  · rw [if_neg hr, if_neg]
    rintro ⟨-, h2⟩
    apply hr
    rw [mayB_iff] at h2 ⊢
    simp only at h2 ⊢
    have e1 : clipP 1001 v = v := clipP_small fun n hn => by have := h2.1 n hn; omega
    rw [e1]
    exact ⟨h2.1, by omega, by omega, h2.2.2.2⟩

theorem bdDec_clip2 {s : ByteArray} {l : List Fld} (hl : l.length = 18) (h : dec (tb s) = some l) (b : Bdy)
    (hb : b = ⟨(min (l.headD (nF 0)).num 9 : Nat), clipP 9999 ((l.tail.take 16).map Fld.num), (l.getLastD (nF 0)).text⟩) :
    bdDec s = if mayB b = true ∧ enc (bdL b) = tb s then some b else none := by
  have ho : okV b.past := by
    subst hb
    exact ⟨by simp [clipP_length, hl], fun n hn => by have := clipP_le n hn; omega⟩
  by_cases hc : mayB b = true ∧ enc (bdL b) = tb s
  · rw [if_pos hc]
    have := bdDec_enc hc.1 ho
    rwa [hc.2, mk_tb] at this
  · rw [if_neg hc]
    cases hd : bdDec s with
    | none => rfl
    | some c =>
      exfalso
      apply hc
      obtain ⟨h1, h2, h3⟩ := (bdDec_iff _ _).1 hd
      rw [h] at h3
      have h4 := Option.some.inj h3
      have h5 := (mayB_iff c).1 h1
      have : b = c := by
        subst hb
        rw [h4]
        cases c with
        | mk ck cv ct =>
          simp only at h2 h5
          simp only [bdL, List.headD_cons, List.tail_cons, Bdy.mk.injEq]
          refine ⟨by simp only [nF]; omega, ?_, by rw [← List.cons_append, List.getLastD_concat]; rfl⟩
          rw [List.take_append_of_le_length (by simp [h2.1]), List.take_of_length_le (by simp [h2.1]), List.map_map]
          have : Fld.num ∘ nF = id := rfl
          rw [this, List.map_id]
          exact clipP_small fun n hn => by have := h5.1 n hn; omega
      subst this
      refine ⟨h1, ?_⟩
      have := (enc_bdDec hd).2.2
      have := congrArg tb this
      rwa [tb_mk] at this
theorem bdDec_len {s : ByteArray} {l : List Fld} (h : dec (tb s) = some l) (hl : l.length ≠ 18) : bdDec s = none := by
  unfold bdDec
  rw [h, Option.bind_some, if_neg]
  rintro ⟨hk, -⟩
  have := congrArg List.length hk
  simp [bdK] at this
  exact hl this
theorem bdDec_kinds {s : ByteArray} {l : List Fld} (h : dec (tb s) = some l) (hl : l.map Fld.kind ≠ bdK) : bdDec s = none := by
  unfold bdDec
  rw [h, Option.bind_some, if_neg]
  rintro ⟨hk, -⟩
  exact hl hk
theorem bdDec_none {s : ByteArray} (h : dec (tb s) = none) : bdDec s = none := by simp [bdDec, h]
end Go.Proofs.YtajpaagbfmjacaaGreatDoor.Am
