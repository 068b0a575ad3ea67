/-
  BODIES AND VECTORS, plainly: no program in sight.
-/
import Derived.Test.YtifchnkhnphibaaV0
import Derived.Test.YtifchnkhnphibaaP4
namespace Go.Proofs.Ytifchnkhnphibaa.Am
set_option linter.unusedSimpArgs false
set_option linter.unusedVariables false
open Go

/-! ### Vectors -/
def okV (v : List Nat) : Prop := v.length = 16 ∧ ∀ n ∈ v, n < 65536
theorem okV_at {v : List Nat} {i x : Nat} (h : okV v) (hi : v[i]? = some x) : x < 65536 := h.2 x (List.mem_of_getElem? hi)
def joinV : List Nat → List Nat → List Nat
  | a :: l, b :: m => max a b :: joinV l m
  | _, _ => []
def belowV : List Nat → List Nat → Bool
  | a :: l, b :: m => decide (a ≤ b) && belowV l m
  | _, _ => true
theorem joinV_length : ∀ {a b : List Nat}, a.length = b.length → (joinV a b).length = a.length
  | [], [], _ => rfl
  | x :: a, y :: b, h => by simp only [List.length_cons] at h; simp [joinV, joinV_length (a := a) (b := b) (by omega)]
  | [], _ :: _, h => by simp at h
  | _ :: _, [], h => by simp at h
theorem joinV_get : ∀ {a b : List Nat} {i x y : Nat}, a[i]? = some x → b[i]? = some y → (joinV a b)[i]? = some (max x y)
  | x :: a, y :: b, 0, _, _, h1, h2 => by simp at h1 h2; simp [joinV, h1, h2]
  | _ :: a, _ :: b, i + 1, _, _, h1, h2 => by simp at h1 h2; simp [joinV, joinV_get h1 h2]
theorem joinV_lt : ∀ {a b : List Nat}, (∀ n ∈ a, n < 65536) → (∀ n ∈ b, n < 65536) → ∀ n ∈ joinV a b, n < 65536
  | [], b, _, _, n, hn => by cases b <;> simp [joinV] at hn
  | _ :: _, [], _, _, n, hn => by simp [joinV] at hn
  | x :: a, y :: b, h1, h2, n, hn => by
    simp only [joinV, List.mem_cons] at hn
    rcases hn with rfl | hn
    · have := h1 x (by simp); have := h2 y (by simp); omega
    · exact joinV_lt (fun n hn => h1 n (by simp [hn])) (fun n hn => h2 n (by simp [hn])) n hn
theorem okV_join {a b : List Nat} (ha : okV a) (hb : okV b) : okV (joinV a b) := ⟨by rw [joinV_length (by rw [ha.1, hb.1]), ha.1], joinV_lt ha.2 hb.2⟩
theorem belowV_no : ∀ {a b : List Nat} {i x y : Nat}, a[i]? = some x → b[i]? = some y → y < x → belowV a b = false
  | x :: a, y :: b, 0, _, _, h1, h2, h => by
    simp at h1 h2; subst h1; subst h2
    simp only [belowV, decide_eq_false (show ¬ x ≤ y by omega), Bool.false_and]
  | _ :: a, _ :: b, i + 1, _, _, h1, h2, h => by simp at h1 h2; simp [belowV, belowV_no h1 h2 h]
theorem belowV_yes : ∀ {a b : List Nat}, (∀ (i x y : Nat), a[i]? = some x → b[i]? = some y → x ≤ y) → belowV a b = true
  | [], _, _ => rfl
  | _ :: _, [], _ => rfl
  | x :: a, y :: b, h => by
    simp only [belowV, Bool.and_eq_true, decide_eq_true_eq]
    exact ⟨h 0 x y rfl rfl, belowV_yes fun i x y h1 h2 => h (i + 1) x y h1 h2⟩
theorem below_join : ∀ {a b : List Nat}, a.length = b.length → eqV (joinV a b) b = belowV a b
  | [], [], _ => rfl
  | x :: a, y :: b, h => by
    simp only [List.length_cons] at h
    have := below_join (a := a) (b := b) (by omega)
    simp only [joinV, eqV, belowV, this]
    congr 1
    rw [Bool.eq_iff_iff]; simp; omega
  | [], _ :: _, h => by simp at h
  | _ :: _, [], h => by simp at h
theorem belowV_iff : ∀ {a b : List Nat}, a.length = b.length → (belowV a b = true ↔ joinV a b = b)
  | [], [], _ => by simp [belowV, joinV]
  | x :: a, y :: b, h => by
    simp only [List.length_cons] at h
    have := belowV_iff (a := a) (b := b) (by omega)
    simp only [belowV, joinV, Bool.and_eq_true, decide_eq_true_eq, this, List.cons.injEq]
    constructor
    · rintro ⟨h1, h2⟩; exact ⟨by omega, h2⟩
    · rintro ⟨h1, h2⟩; exact ⟨by omega, h2⟩
  | [], _ :: _, h => by simp at h
  | _ :: _, [], h => by simp at h
theorem joinV_comm : ∀ (a b : List Nat), joinV a b = joinV b a
  | [], b => by cases b <;> rfl
  | _ :: _, [] => rfl
  | x :: a, y :: b => by simp [joinV, joinV_comm a b, Nat.max_comm]
theorem joinV_self : ∀ (a : List Nat), joinV a a = a
  | [] => rfl
  | x :: a => by simp [joinV, joinV_self a]
theorem joinV_assoc : ∀ (a b c : List Nat), joinV (joinV a b) c = joinV a (joinV b c)
  | [], b, c => by cases b <;> cases c <;> rfl
  | _ :: _, [], c => by cases c <;> rfl
  | _ :: _, _ :: _, [] => rfl
  | x :: a, y :: b, z :: c => by simp [joinV, joinV_assoc a b c, Nat.max_assoc]
theorem below_left : ∀ (a b : List Nat), belowV a (joinV a b) = true
  | [], _ => by cases ‹List Nat› <;> rfl
  | _ :: _, [] => rfl
  | x :: a, y :: b => by simp [joinV, belowV, below_left a b]; omega
theorem below_right (a b : List Nat) : belowV b (joinV a b) = true := by rw [joinV_comm]; exact below_left b a
theorem below_least : ∀ {a b : List Nat}, a.length = b.length → ∀ c : List Nat, b.length = c.length → belowV (joinV a b) c = (belowV a c && belowV b c)
  | [], [], _, _, _ => rfl
  | x :: a, y :: b, h, [], h2 => by simp at h2
  | x :: a, y :: b, h, z :: c, h2 => by
    simp only [List.length_cons] at h h2
    simp only [joinV, belowV, below_least (a := a) (b := b) (by omega) c (by omega)]
    rw [Bool.eq_iff_iff]; simp; constructor
    · rintro ⟨h1, h2, h3⟩; exact ⟨⟨by omega, h2⟩, by omega, h3⟩
    · rintro ⟨⟨h1, h2⟩, h3, h4⟩; exact ⟨by omega, h2, h4⟩
  | [], _ :: _, h, _, _ => by simp at h
  | _ :: _, [], h, _, _ => by simp at h
theorem below_trans : ∀ {a b c : List Nat}, a.length = b.length → b.length = c.length → belowV a b = true → belowV b c = true → belowV a c = true
  | [], _, _, _, _, _, _ => rfl
  | x :: a, y :: b, z :: c, h, h2, h3, h4 => by
    simp only [List.length_cons] at h h2
    simp only [belowV, Bool.and_eq_true, decide_eq_true_eq] at h3 h4 ⊢
    exact ⟨by omega, below_trans (by omega) (by omega) h3.2 h4.2⟩
  | _ :: _, [], _, h, _, _, _ => by simp at h
  | _ :: _, _ :: _, [], _, h, _, _ => by simp at h
theorem below_both {a b : List Nat} (h : a.length = b.length) (h1 : belowV a b = true) : belowV b a = eqV a b := by
  have e1 := (belowV_iff h).1 h1
  rw [Bool.eq_iff_iff, belowV_iff h.symm, eqV_iff h, joinV_comm, e1]
  exact eq_comm
theorem below_self (a : List Nat) : belowV a a = true := by have := below_left a a; rwa [joinV_self] at this
theorem below_zero : ∀ (k : Nat) (a : List Nat), belowV (List.replicate k 0) a = true
  | 0, _ => rfl
  | k + 1, [] => rfl
  | k + 1, x :: a => by simp [List.replicate_succ, belowV, below_zero k a]

/-! ### Bodies -/
structure Bdy where
  kind : Int
  past : List Nat
  text : ByteArray
def Bdy.ok (b : Bdy) : Prop := okV b.past
def avB (b : Bdy) : AV := .agg (bc b.kind b.past b.text)
def allB (v : List Nat) : Bool := v.all fun n => decide (n ≤ 1000)
def mayB (b : Bdy) : Bool := allB b.past && decide (1 ≤ b.kind ∧ b.kind ≤ 3 ∧ b.text.size ≤ 400)
theorem mayB_iff (b : Bdy) : mayB b = true ↔ (∀ n ∈ b.past, n ≤ 1000) ∧ 1 ≤ b.kind ∧ b.kind ≤ 3 ∧ b.text.size ≤ 400 := by simp [mayB, allB]
theorem allB_no {v : List Nat} {i x : Nat} (hi : v[i]? = some x) (h : 1000 < x) : allB v = false := by
  rw [← Bool.not_eq_true]
  intro hh
  have := List.all_eq_true.1 hh x (List.mem_of_getElem? hi)
  simp at this
  omega

def nF (n : Nat) : Fld := ⟨1, n, ⟨#[]⟩, 0⟩
def tF (t : ByteArray) : Fld := ⟨2, 0, t, 0⟩
def bdL (b : Bdy) : List Fld := nF b.kind.toNat :: (b.past.map nF ++ [tF b.text])
def zeroB : Bdy := ⟨0, List.replicate 16 0, ⟨#[]⟩⟩

theorem may_nF (n : Nat) : may (nF n) = true := by
  have : ((⟨#[]⟩ : ByteArray) == ⟨#[]⟩) = true := by decide
  simp [may, nF, this]
theorem may_tF {t : ByteArray} (h : t.size ≤ 2000) : may (tF t) = true := by simp [may, tF, h]
theorem enc_nF {n : Nat} (h : n < 65536) : (encF (nF n)).length ≤ 4 := by
  have := (nlen_le 2 n).2 (by omega)
  simp [encF, nF, numB_length]; omega
theorem enc_tF {t : ByteArray} (h : t.size ≤ 900) : (encF (tF t)).length ≤ 904 := by
  have := (nlen_le 2 t.size).2 (by omega)
  simp [encF, tF, numB_length, tb_length]; omega
theorem flat_nF : ∀ {l : List Nat}, (∀ n ∈ l, n < 65536) → (flatE (l.map nF)).length ≤ 4 * l.length
  | [], _ => by simp [flatE]
  | n :: l, h => by
    have h1 := enc_nF (h n (by simp))
    have h2 := flat_nF (l := l) (fun m hm => h m (by simp [hm]))
    simp only [List.map_cons, flatE, List.length_append, List.length_cons]; omega

theorem bdy_may {b : Bdy} (h : mayB b = true) : ∀ g ∈ bdL b, may g = true ∧ g.ok = true := by
  rw [mayB_iff] at h
  intro g hg
  simp only [bdL, List.mem_cons, List.mem_append, List.mem_map, List.not_mem_nil, or_false] at hg
  rcases hg with rfl | ⟨n, hn, rfl⟩ | rfl
  · exact ⟨may_nF _, by rw [Fld.ok_iff]; simp only [nF]; omega⟩
  · have := h.1 n hn
    exact ⟨may_nF _, by rw [Fld.ok_iff]; simp only [nF]; omega⟩
  · exact ⟨may_tF (by omega), by rw [Fld.ok_iff]; simp only [tF]; omega⟩
theorem bdy_len {b : Bdy} (h : mayB b = true) (ho : okV b.past) : (encAll (bdL b)).length ≤ 8000 := by
  rw [mayB_iff] at h
  have h1 := enc_nF (n := b.kind.toNat) (by omega)
  have h2 := flat_nF ho.2
  have h3 := enc_tF (t := b.text) (by omega)
  rw [ho.1] at h2
  simp only [encAll, bdL, flatE, flatE_append, List.length_cons, List.length_append, List.length_nil]
  omega
theorem bdL_length {b : Bdy} (ho : okV b.past) : (bdL b).length = 18 := by simp [bdL, ho.1]
theorem bdy_enc {b : Bdy} (h : mayB b = true) (ho : okV b.past) : encE (bdL b) = 0 :=
  encE_of (fun g hg => (bdy_may h g hg).1) (by rw [bdL_length ho]; omega) (bdy_len h ho)
theorem bdy_ok {b : Bdy} (h : mayB b = true) : ∀ g ∈ bdL b, g.ok = true := fun g hg => (bdy_may h g hg).2

def bdOf : List Fld → Bdy
  | a :: l => ⟨a.num, (l.take 16).map Fld.num, (l.getLastD ⟨0, 0, ⟨#[]⟩, 0⟩).text⟩
  | [] => zeroB
theorem bdOf_bdL {b : Bdy} (h : mayB b = true) (ho : okV b.past) : bdOf (bdL b) = b := by
  rw [mayB_iff] at h
  cases b with
  | mk k v t =>
    simp only at h ho
    simp only [bdOf, bdL, Bdy.mk.injEq]
    refine ⟨by simp only [nF]; omega, ?_, ?_⟩
    · rw [List.take_append_of_le_length (by simp [ho.1]), List.take_of_length_le (by simp [ho.1]), List.map_map]
      have : Fld.num ∘ nF = id := rfl
      rw [this, List.map_id]
    · simp [tF]

def bdS (b : Bdy) : ByteArray := if mayB b = true then ⟨(enc (bdL b)).toArray⟩ else ⟨#[]⟩
def bdE (b : Bdy) : Nat := if mayB b = true then 0 else 2
def bdK : List Int := List.replicate 17 1 ++ [2]

/-- The body of bytes. -/
def bdDec (s : ByteArray) : Option Bdy := (dec (tb s)).bind fun l => if l.map Fld.kind = bdK ∧ mayB (bdOf l) = true then some (bdOf l) else none
def bdF (s : ByteArray) : Bdy := (bdDec s).getD zeroB
def bdG (s : ByteArray) : Nat := if (bdDec s).isSome then 0 else 4

theorem nF_of {f : Fld} (h : may f = true) (hk : f.kind = 1) : f = nF f.num := by
  cases f
  simp only at hk
  subst hk
  simp only [may, Bool.or_eq_true, Bool.and_eq_true, beq_iff_eq, beq_bytes] at h
  simp only [nF, Fld.mk.injEq, true_and]
  rcases h with h | h | h
  · exact ⟨h.2.1, h.2.2⟩
  · omega
  · omega
theorem tF_of {f : Fld} (h : may f = true) (hk : f.kind = 2) : f = tF f.text := by
  have := may_text h hk
  cases f
  simp only at hk this
  simp [tF, hk, this.1, this.2.1]
theorem ones_of : ∀ {l : List Fld}, (∀ f ∈ l, may f = true) → (∀ f ∈ l, f.kind = 1) → l = (l.map Fld.num).map nF
  | [], _, _ => rfl
  | f :: l, h1, h2 => by
    simp only [List.map_cons, List.cons.injEq]
    exact ⟨nF_of (h1 f (by simp)) (h2 f (by simp)), ones_of (fun g hg => h1 g (by simp [hg])) (fun g hg => h2 g (by simp [hg]))⟩

theorem kinds_bd {l : List Fld} (h : l.map Fld.kind = bdK) (hm : ∀ f ∈ l, may f = true) : ∃ (k : Nat) (v : List Nat) (t : ByteArray), v.length = 16 ∧ l = nF k :: (v.map nF ++ [tF t]) := by
  have hlen : l.length = 18 := by have := congrArg List.length h; simpa [bdK] using this
  match l, hlen with
  | a :: l, hlen =>
    simp only [List.length_cons] at hlen
    obtain ⟨e, he⟩ : ∃ e, l[16]? = some e := ⟨_, List.getElem?_eq_getElem (by omega)⟩
    have hl : l = l.take 16 ++ [e] := by
      rw [← take_snoc he, List.take_of_length_le (by omega)]
    have hk : ∀ (i : Nat) (x : Fld), (a :: l)[i]? = some x → bdK[i]? = some x.kind := fun i x hx => by rw [← h, List.getElem?_map, hx]; rfl
    have ha : a.kind = 1 := by have := hk 0 a rfl; simpa [bdK, List.replicate] using this.symm
    have hek : e.kind = 2 := by have := hk 17 e he; simpa [bdK, List.replicate] using this.symm
    have hones : ∀ f ∈ l.take 16, f.kind = 1 := by
      intro f hf
      obtain ⟨i, hi⟩ := List.mem_iff_getElem?.1 hf
      have hi16 : i < 16 := by
        have := (List.getElem?_eq_some_iff.1 hi).1
        simp at this; omega
      rw [List.getElem?_take_of_lt hi16] at hi
      have := hk (i + 1) f hi
      rw [bdK, List.getElem?_append_left (by simp; omega), List.getElem?_replicate, if_pos (by omega)] at this
      simpa using this.symm
    refine ⟨a.num, (l.take 16).map Fld.num, e.text, by simp; omega, ?_⟩
    rw [← nF_of (hm a (by simp)) ha, ← ones_of (fun f hf => hm f (List.mem_cons_of_mem _ (List.mem_of_mem_take hf))) hones, ← tF_of (hm e (List.mem_cons_of_mem _ (List.mem_of_getElem? he))) hek, ← hl]

theorem bdOf_mk {k : Nat} {v : List Nat} {t : ByteArray} (h : v.length = 16) : bdOf (nF k :: (v.map nF ++ [tF t])) = ⟨k, v, t⟩ := by
  simp only [bdOf, Bdy.mk.injEq]
  refine ⟨rfl, ?_, by simp [tF]⟩
  rw [List.take_append_of_le_length (by simp [h]), List.take_of_length_le (by simp [h]), List.map_map]
  have : Fld.num ∘ nF = id := rfl
  rw [this, List.map_id]

theorem bdL_kinds {b : Bdy} (ho : okV b.past) : (bdL b).map Fld.kind = bdK := by
  have e : (b.past.map nF).map Fld.kind = List.replicate 16 1 := by
    rw [List.map_map, List.eq_replicate_iff]
    refine ⟨by simp [ho.1], ?_⟩
    intro x hx
    obtain ⟨n, _, rfl⟩ := List.mem_map.1 hx
    rfl
  simp only [bdL, List.map_cons, List.map_append, e, List.map_nil]
  rfl

theorem bdDec_iff (s : ByteArray) (b : Bdy) : bdDec s = some b ↔ mayB b = true ∧ okV b.past ∧ dec (tb s) = some (bdL b) := by
  constructor
  · intro h
    obtain ⟨l, hl, h2⟩ := Option.bind_eq_some_iff.1 h
    obtain ⟨⟨hk, hr⟩, h3⟩ := if_some h2
    cases h3
    obtain ⟨h1, -, -⟩ := enc_dec hl
    obtain ⟨k, v, t, hv, rfl⟩ := kinds_bd hk (encE_zero h1).1
    rw [bdOf_mk hv] at hr ⊢
    have hb := (mayB_iff _).1 hr
    refine ⟨hr, ⟨hv, fun n hn => ?_⟩, ?_⟩
    · have := hb.1 n hn; omega
    · rw [hl]; simp [bdL]
  · rintro ⟨hr, h0, hd⟩
    unfold bdDec
    rw [hd, Option.bind_some, if_pos ⟨bdL_kinds h0, by rw [bdOf_bdL hr h0]; exact hr⟩, bdOf_bdL hr h0]

theorem bdDec_enc {b : Bdy} (hr : mayB b = true) (h0 : okV b.past) : bdDec ⟨(enc (bdL b)).toArray⟩ = some b :=
  (bdDec_iff _ _).2 ⟨hr, h0, by rw [tb_mk]; exact dec_enc (bdy_enc hr h0) (bdy_ok hr)⟩
theorem enc_bdDec {s : ByteArray} {b : Bdy} (h : bdDec s = some b) : mayB b = true ∧ okV b.past ∧ (⟨(enc (bdL b)).toArray⟩ : ByteArray) = s := by
  obtain ⟨h1, h2, h3⟩ := (bdDec_iff _ _).1 h
  exact ⟨h1, h2, by rw [(enc_dec h3).2.1, mk_tb]⟩
theorem bdy_inj {a b : Bdy} (h1 : mayB a = true) (h2 : mayB b = true) (o1 : okV a.past) (o2 : okV b.past) (h : enc (bdL a) = enc (bdL b)) : a = b := by
  have e1 := bdDec_enc h1 o1
  rw [h, bdDec_enc h2 o2] at e1
  exact (Option.some.inj e1).symm

/-! ### As it is clipped -/
def clipP (m : Nat) (l : List Nat) : List Nat := l.map fun n => min n m
theorem clipP_length (m : Nat) (l : List Nat) : (clipP m l).length = l.length := by simp [clipP]
theorem clipP_get {m : Nat} {l : List Nat} {i x : Nat} (h : l[i]? = some x) : (clipP m l)[i]? = some (min x m) := by simp [clipP, h]
theorem clipP_le {m : Nat} {l : List Nat} : ∀ n ∈ clipP m l, n ≤ m := by
  intro n hn
  obtain ⟨k, _, rfl⟩ := List.mem_map.1 hn
  exact Nat.min_le_right _ _
theorem clipP_id {m : Nat} : ∀ {l : List Nat}, (∀ n ∈ clipP m l, n < m) → clipP m l = l
  | [], _ => rfl
  | x :: l, h => by
    have h1 := h (min x m) (by simp [clipP])
    have h2 := clipP_id (m := m) (l := l) (fun n hn => h n (by simp only [clipP, List.map_cons, List.mem_cons] at hn ⊢; exact Or.inr hn))
    simp only [clipP, List.map_cons, List.cons.injEq] at h2 ⊢
    exact ⟨by omega, h2⟩
theorem clipP_small {m : Nat} : ∀ {l : List Nat}, (∀ n ∈ l, n ≤ m) → clipP m l = l
  | [], _ => rfl
  | x :: l, h => by
    have h1 := h x (by simp)
    have h2 := clipP_small (m := m) (l := l) (fun n hn => h n (by simp [hn]))
    simp only [clipP, List.map_cons, List.cons.injEq] at h2 ⊢
    exact ⟨by omega, h2⟩

theorem bdDec_clip1 {s : ByteArray} {k : Nat} {v : List Nat} {t : ByteArray} (hv : v.length = 16) (h : dec (tb s) = some (nF k :: (v.map nF ++ [tF t]))) :
    bdDec s = if mayB ⟨(min k 4 : Nat), clipP 1001 v, t⟩ = true then some ⟨(min k 4 : Nat), clipP 1001 v, t⟩ else none := by
  have hkk : (nF k :: (v.map nF ++ [tF t])).map Fld.kind = bdK := by
    have := bdL_kinds (b := ⟨k, v.map fun _ => 0, t⟩) ⟨by simp [hv], by intro n hn; simp at hn; omega⟩
    rw [← this]
    simp [bdL, nF, tF, Function.comp_def]
  unfold bdDec
  rw [h, Option.bind_some, bdOf_mk hv]
  by_cases hr : mayB ⟨(min k 4 : Nat), clipP 1001 v, t⟩ = true
  · have h1 := (mayB_iff _).1 hr
    simp only at h1
    have e1 : clipP 1001 v = v := clipP_id fun n hn => by have := h1.1 n hn; omega
    have e2 : min k 4 = k := by omega
    rw [e1, e2] at hr ⊢
    rw [if_pos hr, if_pos ⟨hkk, hr⟩]
  · rw [if_neg hr, if_neg]
    rintro ⟨-, h2⟩
    apply hr
    rw [mayB_iff] at h2 ⊢
    simp only at h2 ⊢
    have e1 : clipP 1001 v = v := clipP_small fun n hn => by have := h2.1 n hn; omega
    rw [e1]
    exact ⟨h2.1, by omega, by omega, h2.2.2.2⟩

theorem bdDec_clip2 {s : ByteArray} {l : List Fld} (hl : l.length = 18) (h : dec (tb s) = some l) (b : Bdy)
    (hb : b = ⟨(min (l.headD (nF 0)).num 9 : Nat), clipP 9999 ((l.tail.take 16).map Fld.num), (l.getLastD (nF 0)).text⟩) :
    bdDec s = if mayB b = true ∧ enc (bdL b) = tb s then some b else none := by
  have ho : okV b.past := by
    subst hb
    exact ⟨by simp [clipP_length, hl], fun n hn => by have := clipP_le n hn; omega⟩
  by_cases hc : mayB b = true ∧ enc (bdL b) = tb s
  · rw [if_pos hc]
    have := bdDec_enc hc.1 ho
    rwa [hc.2, mk_tb] at this
  · rw [if_neg hc]
    cases hd : bdDec s with
    | none => rfl
    | some c =>
      exfalso
      apply hc
      obtain ⟨h1, h2, h3⟩ := (bdDec_iff _ _).1 hd
      rw [h] at h3
      have h4 := Option.some.inj h3
      have h5 := (mayB_iff c).1 h1
      have : b = c := by
        subst hb
        rw [h4]
        cases c with
        | mk ck cv ct =>
          simp only at h2 h5
          simp only [bdL, List.headD_cons, List.tail_cons, Bdy.mk.injEq]
          refine ⟨by simp only [nF]; omega, ?_, by rw [← List.cons_append, List.getLastD_concat]; rfl⟩
          rw [List.take_append_of_le_length (by simp [h2.1]), List.take_of_length_le (by simp [h2.1]), List.map_map]
          have : Fld.num ∘ nF = id := rfl
          rw [this, List.map_id]
          exact clipP_small fun n hn => by have := h5.1 n hn; omega
      subst this
      refine ⟨h1, ?_⟩
      have := (enc_bdDec hd).2.2
      have := congrArg tb this
      rwa [tb_mk] at this
theorem bdDec_len {s : ByteArray} {l : List Fld} (h : dec (tb s) = some l) (hl : l.length ≠ 18) : bdDec s = none := by
  unfold bdDec
  rw [h, Option.bind_some, if_neg]
  rintro ⟨hk, -⟩
  have := congrArg List.length hk
  simp [bdK] at this
  exact hl this
theorem bdDec_kinds {s : ByteArray} {l : List Fld} (h : dec (tb s) = some l) (hl : l.map Fld.kind ≠ bdK) : bdDec s = none := by
  unfold bdDec
  rw [h, Option.bind_some, if_neg]
  rintro ⟨hk, -⟩
  exact hl hk
theorem bdDec_none {s : ByteArray} (h : dec (tb s) = none) : bdDec s = none := by simp [bdDec, h]
end Go.Proofs.Ytifchnkhnphibaa.Am
