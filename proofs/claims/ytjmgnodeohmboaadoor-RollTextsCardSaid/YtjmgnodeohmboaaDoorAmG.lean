/-
  THE ABSTRACT MACHINE, SEVENTEENTH PART: how calls are evaluated; what is known of functions, put together; bytes. No program is named here.
-/
import Derived.Test.YtjmgnodeohmboaaDoorAmF
namespace Go.Proofs.YtjmgnodeohmboaaDoor.Am
set_option linter.unusedSimpArgs false
set_option linter.unusedVariables false
open Go

section
variable {α β : Type} {Γ : Env} {N : Nat} {Q : Post} {ts ts' : Tm} {m m' : List Blk}

def putBack (ids : List Nat) (m1 mo : List Blk) : List Blk := putM ids ((mo.take ids.length).map (Blk.mapId (back ids m1.length))) m1 ++ (mo.drop ids.length).map (Blk.mapId (back ids m1.length))

/-- A call's end: blocks come back. -/
noncomputable def stepC (K : AV → List Blk → Seg) (_ : Tag K) (ids : List Nat) (m1 : List Blk) (o : Option (Res × List Blk)) : Seg := match o with
  | some (.ret v, mo) => needS (ids.length ≤ mo.length) (K (v.mapId (back ids m1.length)) (putBack ids m1 mo))
  | some (.pan v, mo) => needS (ids.length ≤ mo.length) (.pan (v.mapId (back ids m1.length)) (putBack ids m1 mo))
  | none => .bad
noncomputable def call4 (K : AV → List Blk → Seg) (g : Tag K) (sp : Spec) (m1 : List Blk) (as : List AV) (ids : List Nat) : Seg := needS (subOk ids m1 (AV.idsAll as) = true) (stepC K g ids m1 (sp (AV.mapIdAll (idx ids) as) (subM ids m1)))
noncomputable def call3 (K : AV → List Blk → Seg) (g : Tag K) (sp : Spec) (m1 : List Blk) (as : List AV) : Seg := call4 K g sp m1 as (closeIds m1 3 (addNew [] (AV.idsAll as)))
noncomputable def call2 (K : AV → List Blk → Seg) (g : Tag K) (sp : Spec) (m1 : List Blk) (ms : List Bool) (args : List AV) : Seg := call3 K g sp m1 (prepA m1 ms args)
noncomputable def call1 (K : AV → List Blk → Seg) (g : Tag K) (o : Option (List Bool × Spec)) (m : List Blk) (args : List AV) : Seg := match o with
  | some (ms, sp) => call2 K g sp (freezeIds (fzOf ms args) m) ms args
  | none => .bad

theorem stepS_call (K : AV → List Blk → Seg) (g : Tag K) (m : List Blk) (f : FuncId) (args : List AV) : stepS K g (callA Γ m f args) = call1 K g (Γ f) m args := by
  unfold callA call1
  cases Γ f with
  | none => rfl
  | some p =>
    obtain ⟨ms, sp⟩ := p
    simp only [call2, call3, call4, callB]
    generalize prepA (freezeIds (fzOf ms args) m) ms args = as
    generalize freezeIds (fzOf ms args) m = m1
    generalize closeIds m1 3 (addNew [] (AV.idsAll as)) = ids
    unfold needS
    split
    · cases h : sp (AV.mapIdAll (idx ids) as) (subM ids m1) with
      | none => rfl
      | some p =>
        obtain ⟨r, mo⟩ := p
        simp only []
        split
        · rename_i hl
          cases r <;> simp [stepC, needS, hl, putBack, Res.mapId, stepS]
        · rename_i hl
          cases r <;> simp [stepC, needS, hl, stepS]
    · rfl
theorem call1_some (K : AV → List Blk → Seg) (g : Tag K) (ms : List Bool) (sp : Spec) (m : List Blk) (args : List AV) : call1 K g (some (ms, sp)) m args = call2 K g sp (freezeIds (fzOf ms args) m) ms args := rfl
theorem stepC_ret (K : AV → List Blk → Seg) (g : Tag K) (ids : List Nat) (m1 mo : List Blk) (v : AV) : stepC K g ids m1 (some (.ret v, mo)) = needS (ids.length ≤ mo.length) (K (v.mapId (back ids m1.length)) (putBack ids m1 mo)) := rfl
theorem stepC_pan (K : AV → List Blk → Seg) (g : Tag K) (ids : List Nat) (m1 mo : List Blk) (v : AV) : stepC K g ids m1 (some (.pan v, mo)) = needS (ids.length ≤ mo.length) (.pan (v.mapId (back ids m1.length)) (putBack ids m1 mo)) := rfl
theorem stepC_none (K : AV → List Blk → Seg) (g : Tag K) (ids : List Nat) (m1 : List Blk) : stepC K g ids m1 none = .bad := rfl
theorem stepC_if (c : Prop) [Decidable c] (x : Option (Res × List Blk)) (K : AV → List Blk → Seg) (g : Tag K) (ids : List Nat) (m1 : List Blk) : stepC K g ids m1 (if c then x else none) = needS c (stepC K .mk ids m1 x) := by unfold needS; by_cases h : c <;> simp only [h, if_true, if_false] <;> rfl
theorem stepC_cond (b : Bool) (x y : Option (Res × List Blk)) (K : AV → List Blk → Seg) (g : Tag K) (ids : List Nat) (m1 : List Blk) : stepC K g ids m1 (bif b then x else y) = gateS b (stepC K .mk ids m1 x) (stepC K .mk ids m1 y) .mk .mk := by cases b <;> rfl
theorem stepC_map (f : β → Res × List Blk) (o : Option β) (K : AV → List Blk → Seg) (g : Tag K) (ids : List Nat) (m1 : List Blk) : stepC K g ids m1 (o.map f) = lookS (fun x => stepC K .mk ids m1 (some (f x))) .mk o := by cases o <;> rfl
/-- Two ways, by what there is. -/
def caseS (o : Option α) (K : α → Seg) (n : Seg) (_ : Tag K) (_ : Tag n) : Seg := match o with
  | some x => K x
  | none => n
theorem caseS_some (x : α) (K : α → Seg) (n : Seg) (g : Tag K) (h : Tag n) : caseS (some x) K n g h = K x := rfl
theorem caseS_none (K : α → Seg) (n : Seg) (g : Tag K) (h : Tag n) : caseS none K n g h = n := rfl
theorem stepC_elim (o : Option β) (x : Option (Res × List Blk)) (f : β → Option (Res × List Blk)) (K : AV → List Blk → Seg) (g : Tag K) (ids : List Nat) (m1 : List Blk) : stepC K g ids m1 (o.elim x f) = caseS o (fun a => stepC K .mk ids m1 (f a)) (stepC K .mk ids m1 x) .mk .mk := by cases o <;> rfl
theorem seg_case {R : Tm → List Blk → Prop} {S : AV → List Blk → Prop} {o : Option α} {K : α → Seg} {n : Seg} {g : Tag K} {h : Tag n} (h1 : ∀ x, o = some x → segP R S (K x)) (h2 : o = none → segP R S n) : segP R S (caseS o K n g h) := by
  cases o with
  | some x => exact h1 x rfl
  | none => exact h2 rfl
theorem closeIds_nil' (m : List Blk) (n : Nat) : closeIds m n [] = [] := closeIds_nil m n
theorem subM_nil (m : List Blk) : subM [] m = [] := rfl
theorem putM_nil (l m : List Blk) : putM [] l m = m := by cases l <;> rfl
theorem putBack_nil (m1 mo : List Blk) : putBack [] m1 mo = m1 ++ mo.map (Blk.mapId (back [] m1.length)) := by simp [putBack, putM]
theorem subOk_nil (m : List Blk) : subOk [] m [] = true := rfl
end

/-! ### What is known of functions -/
def Env.none : Env := fun _ => Option.none
def Env.put (Γ : Env) (f : FuncId) (ms : List Bool) (sp : Spec) : Env := fun g => if g = f then some (ms, sp) else Γ g

theorem Env.none_ok (P : Program) : EnvOk P Env.none := fun _ _ _ h => by cases h
theorem Env.put_ok {P : Program} {Γ : Env} {f : FuncId} {sp : Spec} (ms : List Bool) (h : EnvOk P Γ) (k : CallOk P f sp) : EnvOk P (Γ.put f ms sp) := by
  intro g ms' sp' hg
  unfold Env.put at hg
  split at hg
  · rename_i e; subst e; cases hg; exact k
  · exact h g ms' sp' hg

/-- An empty slice as one of elements of a size. -/
def fix1 (k : Nat) : AV → AV
  | .fsl n es => .fsl (bif es.isEmpty then k else n) es
  | a => a
def fixL : List Nat → List AV → List AV
  | k :: ks, a :: as => fix1 k a :: fixL ks as
  | _, as => as
def fixS (ks : List Nat) (sp : Spec) : Spec := fun args mem => sp (fixL ks args) mem

theorem fix1_ok {F : Nat → Prop} {w : World} {B : List Loc} {k : Nat} {a : AV} {x : Value} (h : VR F w B a x) : VR F w B (fix1 k a) x := by
  unfold fix1
  split
  · rename_i n es
    cases es with
    | nil => exact (Same.nil n k).ok h
    | cons e es => exact h
  · exact h
theorem fixL_ok {F : Nat → Prop} {w : World} {B : List Loc} : ∀ (ks : List Nat) {as : List AV} {xs : List Value}, CR F w B as xs → CR F w B (fixL ks as) xs
  | [], as, xs, h => by unfold fixL; exact h
  | k :: ks, [], xs, h => by unfold fixL; exact h
  | k :: ks, a :: as, xs, h => by
    cases h with
    | cons h t => exact .cons (fix1_ok h) (fixL_ok ks t)
theorem CallOk.fix {P : Program} {f : FuncId} {sp : Spec} (ks : List Nat) (h : CallOk P f sp) : CallOk P f (fixS ks sp) := by
  rcases h with ⟨h1, h2⟩ | h | h
  · refine .inl ⟨h1, ?_⟩
    intro args mem r mem1 hsp O F B w vs hO hm ha
    exact h2 (fixL ks args) mem r mem1 hsp O F B w vs hO hm (fixL_ok ks ha)
  · refine .inr (.inl ?_)
    intro args mem r mem1 hsp
    obtain ⟨e1, e2, v, e3, e4⟩ := h (fixL ks args) mem r mem1 hsp
    exact ⟨e1, e2, v, e3, fun F w vs hc => e4 F w vs (fixL_ok ks hc)⟩
  · refine .inr (.inr ?_)
    intro args mem r mem1 hsp
    obtain ⟨e1, v, e3, e4⟩ := h (fixL ks args) mem r mem1 hsp
    exact ⟨e1, v, e3, fun O F B w vs hm hc => e4 O F B w vs hm (fixL_ok ks hc)⟩

theorem if_some {α : Type} {c : Prop} [Decidable c] {x : Option α} {y : α} (h : (if c then x else none) = some y) : c ∧ x = some y := by
  by_cases hc : c
  · rw [if_pos hc] at h; exact ⟨hc, h⟩
  · rw [if_neg hc] at h; cases h
theorem map_some {α β : Type} {f : α → β} {x : Option α} {y : β} (h : x.map f = some y) : ∃ a, x = some a ∧ f a = y := Option.map_eq_some_iff.1 h

/-! ### Bytes -/
def bv (l : List UInt8) : List AV := l.map fun b => .v (.int .u8 b.toNat)
/-- A spec's bytes: of a slice of bytes. -/
def inB : List AV → Option (List UInt8)
  | [] => some []
  | .v (.int .u8 n) :: r => if 0 ≤ n ∧ n < 256 then (inB r).map (UInt8.ofNat n.toNat :: ·) else none
  | _ => none
theorem bv_nil : bv [] = [] := rfl
theorem bv_fold (l : List UInt8) : l.map (fun b => AV.v (.int .u8 b.toNat)) = bv l := rfl
theorem bv_length (l : List UInt8) : (bv l).length = l.length := by simp [bv]
theorem bv_append (l m : List UInt8) : bv l ++ bv m = bv (l ++ m) := by simp [bv]
theorem bv_get (l : List UInt8) (i : Nat) : (bv l)[i]? = l[i]?.map fun b => .v (.int .u8 b.toNat) := by simp [bv]
theorem bv_getElem (l : List UInt8) (i : Nat) (h : i < (bv l).length) : (bv l)[i] = .v (.int .u8 ((l[i]'(by simpa [bv] using h)).toNat : Int)) := by simp [bv]
theorem inB_nil : inB [] = some [] := rfl
theorem bv_take (l : List UInt8) (i : Nat) : (bv l).take i = bv (l.take i) := by simp [bv]
theorem bv_drop (l : List UInt8) (i : Nat) : (bv l).drop i = bv (l.drop i) := by simp [bv]
theorem bv_isEmpty (l : List UInt8) : (bv l).isEmpty = l.isEmpty := by cases l <;> rfl
theorem bv_eq_nil (l : List UInt8) : (bv l = []) = (l = []) := by cases l <;> simp [bv]
theorem bytesOf_bv : ∀ l : List UInt8, bytesOf (bv l) = some l
  | [] => rfl
  | b :: l => by
    have := bytesOf_bv l
    simp only [bv, List.map_cons, bytesOf] at this ⊢
    rw [this]
    simp
theorem bytesOf_some : ∀ (es : List AV) (l : List UInt8), bytesOf es = some l → (∀ e ∈ es, ∃ n : Int, e = .v (.int .u8 n) ∧ 0 ≤ n ∧ n < 256) → es = bv l
  | [], l, h, _ => by simp [bytesOf] at h; subst h; rfl
  | e :: es, l, h, hr => by
    obtain ⟨n, rfl, h0, h1⟩ := hr e (by simp)
    simp only [bytesOf] at h
    cases hb : bytesOf es with
    | none => simp [hb] at h
    | some l' =>
      simp [hb] at h
      subst h
      rw [bytesOf_some es l' hb (fun e he => hr e (by simp [he]))]
      simp [bv]
      omega
theorem bv_snoc (l : List UInt8) (n : Int) (h : 0 ≤ n ∧ n < 256) : bv l ++ [.v (.int .u8 n)] = bv (l ++ [UInt8.ofNat n.toNat]) := by
  simp [bv]; omega
theorem bv_snoc8 (l : List UInt8) (b : UInt8) : bv l ++ [.v (.int .u8 (b.toNat : Int))] = bv (l ++ [b]) := by simp [bv]
theorem bv_shaped (l : List UInt8) : (bv l).all AV.shaped = true := by simp [bv, AV.shaped, AV.one, Value.oneCell']
theorem bv_one (n : Int) (h : 0 ≤ n ∧ n < 256) : [AV.v (.int .u8 n)] = bv [UInt8.ofNat n.toNat] := by
  simp [bv]; omega

theorem inB_bv : ∀ l : List UInt8, inB (bv l) = some l
  | [] => rfl
  | b :: l => by
    have h1 := inB_bv l
    have h2 : (b.toNat : Int) < 256 := by have := b.toNat_lt; omega
    simp only [bv, List.map_cons, inB] at h1 ⊢
    rw [h1, if_pos ⟨by omega, h2⟩]
    simp
theorem inB_some : ∀ (es : List AV) (l : List UInt8), inB es = some l → es = bv l
  | [], l, h => by simp [inB] at h; subst h; rfl
  | e :: es, l, h => by
    unfold inB at h
    split at h
    · rename_i hh; cases hh
    · rename_i n r hh
      cases hh
      split at h
      · rename_i hn
        cases hb : inB es with
        | none => simp [hb] at h
        | some l' =>
          simp [hb] at h
          subst h
          rw [inB_some es l' hb]
          simp [bv]
          omega
      · cases h
    · cases h

theorem empty_beq : ((⟨#[]⟩ : ByteArray) == ⟨#[]⟩) = true := by decide
theorem idxOf_at (a b : Nat) (l : List Nat) : (a :: l).idxOf b = if a = b then 0 else l.idxOf b + 1 := by
  rw [List.idxOf_cons]; by_cases h : a = b
  · simp [h]
  · rw [if_neg h, show (a == b) = false from beq_false_of_ne h]; rfl
attribute [simp] idxOf_at empty_beq minI maxI stepS_call call1_some call2 call3 call4 stepC_ret stepC_pan stepC_none stepC_if stepC_cond stepC_map stepC_elim caseS_some caseS_none closeIds closeIds_nil' subM_nil putM_nil putBack_nil putBack putM subM subOk_nil subOk addNew fzOf prepA idx back Res.mapId Env.put Env.none fix1 fixL fixS
  bv_getElem inB_nil bv_snoc8 bv_append bv_nil bv_fold bv_length bv_get bv_take bv_drop bv_isEmpty bv_eq_nil bytesOf_bv bv_shaped inB_bv
end Go.Proofs.YtjmgnodeohmboaaDoor.Am
