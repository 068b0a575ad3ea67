/-
  THE ABSTRACT MACHINE, RUN: an evaluator of whole bodies at given values, with which the kernel can reckon. No program is named here.
-/
import Derived.Test.YtajpaagbfmjacaaGreatDoorZQ4
namespace Go.Proofs.YtajpaagbfmjacaaGreatDoor.Am
set_option linter.unusedSimpArgs false
set_option linter.unusedVariables false
open Go

/-! ### Are two states the same? -/
def eqBA (a b : ByteArray) : Bool := a.data.toList == b.data.toList
theorem eqBA_ok {a b : ByteArray} (h : eqBA a b = true) : a = b := by
  unfold eqBA at h
  have := eq_of_beq h
  cases a; cases b
  simp only [ByteArray.mk.injEq]
  exact Array.ext' this
def eqVal : Value → Value → Bool
  | .bool a, .bool b => a == b
  | .int k a, .int l b => k == l && a == b
  | .string a, .string b => eqBA a b
  | .slice none a b, .slice none c d => a == c && b == d
  | .float k a, .float l b => k == l && a == b
  | .pointer (some ⟨a, o, none⟩), .pointer (some ⟨b, p, none⟩) => a == b && o == p
  | .pointer none, .pointer none => true
  | .map none, .map none => true
  | .nilIface, .nilIface => true
  | .tuple ⟨[]⟩, .tuple ⟨[]⟩ => true
  | .func (.func f) ⟨[]⟩ ⟨[]⟩, .func (.func g) ⟨[]⟩ ⟨[]⟩ => f == g
  | _, _ => false
theorem eqVal_ok : ∀ {a b : Value}, eqVal a b = true → a = b := by
  intro a b h
  unfold eqVal at h
  split at h <;> first
    | rfl
    | (cases h; done)
    | rw [eqBA_ok h]
    | rw [eq_of_beq h]
    | (simp only [Bool.and_eq_true] at h; rw [eq_of_beq h.1, eq_of_beq h.2])
mutual
def eqAV : AV → AV → Bool
  | .any, .any => true
  | .v a, .v b => eqVal a b
  | .agg a, .agg b => eqAVs a b
  | .tup a, .tup b => eqAVs a b
  | .fn f a, .fn g b => f == g && eqAVs a b
  | .osl a, .osl b => a == b
  | .ptr a i o, .ptr b j p => a == b && i == j && o == p
  | .fsl n a, .fsl k b => n == k && eqAVs a b
  | .fptr a o, .fptr b p => o == p && eqAV a b
  | .win a i n, .win b j k => a == b && i == j && n == k
  | .ifc t a, .ifc u b => t == u && eqAV a b
  | _, _ => false
def eqAVs : List AV → List AV → Bool
  | [], [] => true
  | a :: l, b :: m => eqAV a b && eqAVs l m
  | _, _ => false
end
mutual
theorem eqAV_ok : ∀ {a b : AV}, eqAV a b = true → a = b
  | a, b, h => by
    cases a <;> cases b <;> simp only [eqAV, Bool.and_eq_true] at h <;> first
      | rfl
      | (cases h; done)
      | rw [eqVal_ok h]
      | rw [eqAVs_ok h]
      | rw [eq_of_beq h]
      | rw [eq_of_beq h.1, eqAVs_ok h.2]
      | rw [eq_of_beq h.1, eqAV_ok h.2]
      | rw [eq_of_beq h.1.1, eq_of_beq h.1.2, eq_of_beq h.2]
theorem eqAVs_ok : ∀ {a b : List AV}, eqAVs a b = true → a = b
  | [], [], _ => rfl
  | a :: l, b :: m, h => by
    simp only [eqAVs, Bool.and_eq_true] at h
    rw [eqAV_ok h.1, eqAVs_ok h.2]
  | [], _ :: _, h => by cases h
  | _ :: _, [], h => by cases h
end
def eqTm : Tm → Tm → Bool
  | [], [] => true
  | (i, a) :: l, (j, b) :: m => i == j && eqAV a b && eqTm l m
  | _, _ => false
theorem eqTm_ok : ∀ {a b : Tm}, eqTm a b = true → a = b
  | [], [], _ => rfl
  | (i, a) :: l, (j, b) :: m, h => by
    simp only [eqTm, Bool.and_eq_true] at h
    rw [eq_of_beq h.1.1, eqAV_ok h.1.2, eqTm_ok h.2]
  | [], _ :: _, h => by cases h
  | _ :: _, [], h => by cases h
def eqMp : List (ByteArray × AV) → List (ByteArray × AV) → Bool
  | [], [] => true
  | (i, a) :: l, (j, b) :: m => eqBA i j && eqAV a b && eqMp l m
  | _, _ => false
theorem eqMp_ok : ∀ {a b : List (ByteArray × AV)}, eqMp a b = true → a = b
  | [], [], _ => rfl
  | (i, a) :: l, (j, b) :: m, h => by
    simp only [eqMp, Bool.and_eq_true] at h
    rw [eqBA_ok h.1.1, eqAV_ok h.1.2, eqMp_ok h.2]
  | [], _ :: _, h => by cases h
  | _ :: _, [], h => by cases h
def eqBlk : Blk → Blk → Bool
  | .gone, .gone => true
  | .var a, .var b => eqAVs a b
  | .tvar t a, .tvar u b => t == u && eqAVs a b
  | .arr t n a, .arr u k b => t == u && n == k && eqAVs a b
  | .buf t n a, .buf u k b => t == u && n == k && eqAVs a b
  | .frz a, .frz b => eqAV a b
  | .map a, .map b => eqMp a b
  | .wrr t n a, .wrr u k b => t == u && n == k && eqAVs a b
  | _, _ => false
theorem eqBlk_ok {a b : Blk} (h : eqBlk a b = true) : a = b := by
  cases a <;> cases b <;> simp only [eqBlk, Bool.and_eq_true] at h <;> first
    | rfl
    | (cases h; done)
    | rw [eqAVs_ok h]
    | rw [eqAV_ok h]
    | rw [eqMp_ok h]
    | rw [eq_of_beq h.1, eqAVs_ok h.2]
    | rw [eq_of_beq h.1.1, eq_of_beq h.1.2, eqAVs_ok h.2]
def eqMem : List Blk → List Blk → Bool
  | [], [] => true
  | a :: l, b :: m => eqBlk a b && eqMem l m
  | _, _ => false
theorem eqMem_ok : ∀ {a b : List Blk}, eqMem a b = true → a = b
  | [], [], _ => rfl
  | a :: l, b :: m, h => by
    simp only [eqMem, Bool.and_eq_true] at h
    rw [eqBlk_ok h.1, eqMem_ok h.2]
  | [], _ :: _, h => by cases h
  | _ :: _, [], h => by cases h

/-! ### Operations -/
abbrev Out := AExit × Tm × List Blk
def gateX (g : Option (Nat × Bool)) (ts : Tm) : Option Bool :=
  match g with
  | none => some true
  | some (d, b) => match tget ts d with
    | .v (.tuple ⟨[]⟩) => some false
    | .v (.bool t) => some (t == b)
    | _ => none
theorem gate_yes {g : Option (Nat × Bool)} {ts : Tm} {yes no : Tm → Prop} (h : gateX g ts = some true) (k : yes ts) : gateK g ts yes no := by
  cases g with
  | none => exact k
  | some p =>
    obtain ⟨d, b⟩ := p
    unfold gateX at h
    simp only at h
    unfold gateK
    simp only
    split at h
    · cases h
    · rename_i t ht
      have e : t = b := by simpa using h
      subst e
      have hs : tset d (.v (.bool t)) ts = ts := by rw [← ht, tset_same]
      unfold skipK guardK
      rw [ht]
      simp only
      refine ⟨fun _ => by rw [hs]; exact k, fun e => ?_⟩
      cases t <;> cases e
    · cases h
theorem gate_no {g : Option (Nat × Bool)} {ts : Tm} {yes no : Tm → Prop} (h : gateX g ts = some false) (k : no ts) : gateK g ts yes no := by
  cases g with
  | none => cases h
  | some p =>
    obtain ⟨d, b⟩ := p
    unfold gateX at h
    simp only at h
    unfold gateK
    simp only
    split at h
    · rename_i ht
      unfold skipK
      rw [ht]
      exact k
    · rename_i t ht
      have e : t = !b := by
        have : ¬ t = b := by simpa using h
        cases t <;> cases b <;> simp_all
      have hs : tset d (.v (.bool t)) ts = ts := by rw [← ht, tset_same]
      unfold skipK guardK
      rw [ht]
      simp only
      refine ⟨fun e2 => ?_, fun _ => by rw [← e, hs]; exact k⟩
      subst e
      cases b <;> cases e2
    · cases h
def runX (Γ : Env) : List AOper → Tm → List Blk → Option Out
  | [], ts, m => some (.normal, ts, m)
  | o :: r, ts, m => match gateX o.guard ts with
    | some true => match stepA Γ (tget ts) m o.op with
      | some (.ret v, m') => runX Γ r (tput (tkill o.kill ts) o.dst v) m'
      | some (.pan v, m') => some (.pan v, [], m')
      | none => none
    | some false => runX Γ r (tput (tkill o.kill ts) o.dst skipV) m
    | none => none
theorem runX_ok {Γ : Env} {Q : Post} : ∀ (ops : List AOper) (ts : Tm) (m : List Blk) (o : Out), runX Γ ops ts m = some o → Q o.1 o.2.1 o.2.2 → runW Γ ops ts m Q
  | [], ts, m, o, h, hQ => by
    simp only [runX, Option.some.injEq] at h
    subst h; exact hQ
  | x :: r, ts, m, o, h, hQ => by
    unfold runX at h
    unfold runW
    split at h
    · rename_i hg
      refine gate_yes hg ?_
      unfold stepK optK
      split at h
      · rename_i hs
        rw [hs]
        exact runX_ok r _ _ o h hQ
      · rename_i hs
        rw [hs]
        cases h
        exact hQ
      · cases h
    · rename_i hg
      exact gate_no hg (runX_ok r _ _ o h hQ)
    · cases h
def planX (Γ : Env) : Plan → Tm → List Blk → Option (List Out)
  | .done, ts, m => some [(.normal, ts, m)]
  | .stop, _, _ => some []
  | .tak _ o nx, ts, m => match gateX o.guard ts with
    | some true => if freeA (tget ts) o.op = true then match stepA Γ (tget ts) m o.op with
      | some (.ret v, _) => planX Γ nx (tput ts o.dst v) m
      | _ => none
      else none
    | some false => planX Γ nx (tput ts o.dst skipV) m
    | none => none
  | .alt _ o nx ot, ts, m => match planX Γ ot ts m with
    | none => none
    | some l => match gateX o.guard ts with
      | some true => match stepA Γ (tget ts) m o.op with
        | some (.ret v, m') => (planX Γ nx (tput ts o.dst v) m').map (· ++ l)
        | some (.pan v, m') => some ((.pan v, [], m') :: l)
        | none => none
      | some false => (planX Γ nx (tput ts o.dst skipV) m).map (· ++ l)
      | none => none
theorem planX_ok {Γ : Env} {Q : Post} : ∀ (p : Plan) (ts : Tm) (m : List Blk) (os : List Out), planX Γ p ts m = some os → (∀ o ∈ os, Q o.1 o.2.1 o.2.2) → planW Γ p ts m Q
  | .done, ts, m, os, h, hQ => by
    simp only [planX, Option.some.injEq] at h
    subst h
    exact hQ (.normal, ts, m) (List.mem_singleton.2 rfl)
  | .stop, ts, m, os, h, hQ => trivial
  | .tak i o nx, ts, m, os, h, hQ => by
    unfold planX at h
    unfold planW
    split at h
    · rename_i hg
      split at h
      · rename_i hf
        refine gate_yes hg ⟨hf, ?_⟩
        unfold optK
        split at h
        · rename_i hs
          rw [hs]
          exact planX_ok nx _ _ os h hQ
        · cases h
      · cases h
    · rename_i hg
      exact gate_no hg (planX_ok nx _ _ os h hQ)
    · cases h
  | .alt i o nx ot, ts, m, os, h, hQ => by
    unfold planX at h
    unfold planW
    split at h
    · cases h
    · rename_i l hl
      split at h
      · rename_i hg
        split at h
        · rename_i hs
          obtain ⟨l2, h2, rfl⟩ := Option.map_eq_some_iff.1 h
          refine ⟨gate_yes hg ?_, planX_ok ot ts m l hl fun o ho => hQ o (by simp [ho])⟩
          unfold optK
          rw [hs]
          exact planX_ok nx _ _ l2 h2 fun o ho => hQ o (by simp [ho])
        · rename_i hs
          cases h
          refine ⟨gate_yes hg ?_, planX_ok ot ts m l hl fun o ho => hQ o (by simp [ho])⟩
          unfold optK
          rw [hs]
          exact hQ (.pan _, [], _) (List.mem_cons_self)
        · cases h
      · rename_i hg
        obtain ⟨l2, h2, rfl⟩ := Option.map_eq_some_iff.1 h
        exact ⟨gate_no hg (planX_ok nx _ _ l2 h2 fun o ho => hQ o (by simp [ho])), planX_ok ot ts m l hl fun o ho => hQ o (by simp [ho])⟩
      · cases h

/-! ### States, numbered anew -/
def eqOut (a b : Out) : Bool := match a, b with
  | (.normal, ts, m), (.normal, ts', m') => eqTm ts ts' && eqMem m m'
  | _, _ => false
theorem eqOut_ok {a b : Out} (h : eqOut a b = true) : a = b := by
  unfold eqOut at h
  split at h
  · simp only [Bool.and_eq_true] at h
    rw [eqTm_ok h.1, eqMem_ok h.2]
  · cases h
def nub : List Out → List Out
  | [] => []
  | o :: l => let r := nub l; if r.any (eqOut o) = true then r else o :: r
theorem nub_mem {o : Out} : ∀ {l : List Out}, o ∈ l → o ∈ nub l
  | x :: l, h => by
    unfold nub
    simp only
    split
    · rename_i hx
      rcases List.mem_cons.1 h with rfl | h
      · obtain ⟨y, hy, he⟩ := List.any_eq_true.1 hx
        rw [eqOut_ok he]; exact hy
      · exact nub_mem h
    · rcases List.mem_cons.1 h with rfl | h
      · simp
      · exact List.mem_cons_of_mem _ (nub_mem h)
def canonX (N : Nat) (keep : List Nat) (ts : Tm) (m : List Blk) : Option (Tm × List Blk) :=
  let ids := closeIds m 8 (addNew (List.range N) (tids (tkeep keep ts)))
  if subOk ids m (tids (tkeep keep ts)) = true ∧ ids.take N = List.range N then some (tmap (idx ids) (tkeep keep ts), subM ids m) else none
theorem canonX_ok {N : Nat} {keep : List Nat} {ts ts' : Tm} {m m' : List Blk} {J : Tm → List Blk → Prop} (h : canonX N keep ts m = some (ts', m')) (hJ : J ts' m') : into N keep J ts m := by
  unfold canonX at h
  simp only at h
  split at h
  · rename_i hc
    cases h
    exact ⟨[], _, hc.1, hc.2, hJ⟩
  · cases h
def bindX (K : Tm → List Blk → Option (List Out)) : List Out → Option (List Out)
  | [] => some []
  | o :: r => match bindX K r with
    | none => none
    | some l => match o with
      | (.normal, ts, m) => (K ts m).map (· ++ l)
      | o => some (o :: l)
theorem bindX_ok {K : Tm → List Blk → Option (List Out)} {Q : Post} : ∀ {os l : List Out}, bindX K os = some l → (∀ o ∈ l, Q o.1 o.2.1 o.2.2) →
    ∀ o ∈ os, AExit.thenA (fun ts m => ∃ l, K ts m = some l ∧ ∀ o ∈ l, Q o.1 o.2.1 o.2.2) Q o.1 o.2.1 o.2.2
  | x :: r, l, h, hQ, o, ho => by
    unfold bindX at h
    split at h
    · cases h
    · rename_i l2 hl2
      split at h
      · rename_i ts m
        obtain ⟨l3, h3, rfl⟩ := Option.map_eq_some_iff.1 h
        rcases List.mem_cons.1 ho with rfl | ho
        · exact ⟨l3, h3, fun o ho => hQ o (by simp [ho])⟩
        · exact bindX_ok hl2 (fun o ho => hQ o (by simp [ho])) o ho
      · rename_i hne
        cases h
        rcases List.mem_cons.1 ho with rfl | ho
        · obtain ⟨e, ts, m⟩ := o
          have := hQ (e, ts, m) (by simp)
          cases e with
          | normal => exact absurd rfl (hne ts m)
          | exit i => exact this
          | ret => exact this
          | pan v => exact this
        · exact bindX_ok hl2 (fun o ho => hQ o (by simp [ho])) o ho
/-- Where a run of several orders goes on: each numbered anew, the same ones once. -/
def packX (N : Nat) (ks keep : List Nat) : List Out → Option (List Out)
  | [] => some []
  | o :: r => match packX N ks keep r with
    | none => none
    | some l => match o with
      | (.normal, ts, m) => (canonX N keep (tkill ks ts) m).map fun p => (.normal, p.1, p.2) :: l
      | o => some (o :: l)
theorem packX_ok {N : Nat} {ks keep : List Nat} {J : Tm → List Blk → Prop} {Q : Post} : ∀ {os l : List Out}, packX N ks keep os = some l → (∀ o ∈ l, AExit.thenA J Q o.1 o.2.1 o.2.2) →
    ∀ o ∈ os, AExit.thenA (fun ts m => into N keep J (tkill ks ts) m) Q o.1 o.2.1 o.2.2
  | x :: r, l, h, hQ, o, ho => by
    unfold packX at h
    split at h
    · cases h
    · rename_i l2 hl2
      split at h
      · rename_i ts m
        obtain ⟨p, h3, rfl⟩ := Option.map_eq_some_iff.1 h
        rcases List.mem_cons.1 ho with rfl | ho
        · exact canonX_ok (J := J) h3 (hQ (.normal, p.1, p.2) (by simp))
        · exact packX_ok hl2 (fun o ho => hQ o (by simp [ho])) o ho
      · rename_i hne
        cases h
        rcases List.mem_cons.1 ho with rfl | ho
        · obtain ⟨e, ts, m⟩ := o
          have := hQ (e, ts, m) (by simp)
          cases e with
          | normal => exact absurd rfl (hne ts m)
          | exit i => exact this
          | ret => exact this
          | pan v => exact this
        · exact packX_ok hl2 (fun o ho => hQ o (by simp [ho])) o ho
def outBlk (i : Nat) : Out → Out
  | (.exit j, ts, m) => if j = i then (.normal, ts, m) else (.exit j, ts, m)
  | o => o

/-! ### Bodies -/
def condX (ts : Tm) : AOpd → Option Bool
  | .t d => match tget ts d with
    | .v (.bool t) => some t
    | _ => none
  | .c (.bool t) => some t
  | _ => none
theorem condX_ok {ts : Tm} {c : AOpd} {t : Bool} {yes no : Tm → Prop} (h : condX ts c = some t) (hy : t = true → yes ts) (hn : t = false → no ts) : condK ts c yes no := by
  unfold condX at h
  split at h
  · split at h
    · rename_i ht
      cases h
      exact guardK_of ht hy hn
    · cases h
  · cases h
    exact ⟨hy, hn⟩
  · cases h
/-- A loop from a state that is numbered already: what its body comes to is numbered anew, the same ones once. -/
def loopX (N : Nat) (keep : List Nat) (E : Tm → List Blk → Option (List Out)) : Nat → Tm → List Blk → Option (List Out)
  | 0, _, _ => none
  | j + 1, ts, m => match E ts m with
    | none => none
    | some os => match packX N [] keep os with
      | none => none
      | some os2 => bindX (loopX N keep E j) (nub os2)
def evalX (Γ : Env) (N : Nat) : Nat → ACode → Tm → List Blk → Option (List Out)
  | 0, _, _, _ => none
  | k + 1, ac, ts, m => match ac with
    | .skip => some [(.normal, ts, m)]
    | .region false _ ops => (runX Γ ops ts m).map ([·])
    | .draws p _ _ => planX Γ p ts m
    | .seq a b => match evalX Γ N k a ts m with
      | none => none
      | some os => match b with
        | .drop ks (.pack keep c) => match packX N ks keep os with
          | none => none
          | some os => bindX (evalX Γ N k c) (nub os)
        | b => bindX (evalX Γ N k b) os
    | .cond c a b => match condX ts c with
      | none => none
      | some t => evalX Γ N k (bif t then a else b) ts m
    | .block i b => (evalX Γ N k b ts m).map (·.map (outBlk i))
    | .loop keep b => match canonX N keep ts m with
      | none => none
      | some p => loopX N keep (evalX Γ N k b) k p.1 p.2
    | .drop ks b => evalX Γ N k b (tkill ks ts) m
    | .pack keep b => match canonX N keep ts m with
      | none => none
      | some p => evalX Γ N k b p.1 p.2
    | .seal_ d b => match sealA d ts m with
      | none => none
      | some p => evalX Γ N k b p.1 p.2
    | .exit i => some [(.exit i, ts, m)]
    | .ret => some [(.ret, ts, m)]
    | _ => none
theorem tkill_nil : ∀ ts : Tm, tkill [] ts = ts
  | [] => rfl
  | (k, u) :: r => by
    have : tkill [] ((k, u) :: r) = (k, u) :: tkill [] r := by simp [tkill]
    rw [this, tkill_nil r]
theorem thenA_mono {J K : Tm → List Blk → Prop} {Q : Post} {e : AExit} {ts : Tm} {m : List Blk} (h : ∀ ts m, J ts m → K ts m) (k : AExit.thenA J Q e ts m) : AExit.thenA K Q e ts m := by
  cases e with
  | normal => exact h ts m k
  | exit i => exact k
  | ret => exact k
  | pan v => exact k
theorem outBlk_ok {i : Nat} {Q : Post} : ∀ {o : Out}, Q (outBlk i o).1 (outBlk i o).2.1 (outBlk i o).2.2 → AExit.inBlk i Q o.1 o.2.1 o.2.2
  | (.exit j, ts, m), h => by
    simp only [outBlk] at h
    show (if j = i then Q .normal ts m else Q (.exit j) ts m)
    by_cases e : j = i
    · rw [if_pos e] at h ⊢; exact h
    · rw [if_neg e] at h ⊢; exact h
  | (.normal, ts, m), h => h
  | (.ret, ts, m), h => h
  | (.pan v, ts, m), h => h
theorem evalX_ok {Γ : Env} {N : Nat} (k : Nat) : ∀ (ac : ACode) (ts : Tm) (m : List Blk) (os : List Out), evalX Γ N k ac ts m = some os → ∀ Q : Post, (∀ o ∈ os, Q o.1 o.2.1 o.2.2) → wpA Γ N ac Q ts m := by
  induction k using Nat.strongRecOn with
  | ind k ih =>
  intro ac ts m os h Q hQ
  cases k with
  | zero => unfold evalX at h; cases h
  | succ k =>
  have ihk := ih k (Nat.lt_succ_self k)
  cases ac with
  | skip =>
    simp only [evalX, Option.some.injEq] at h
    subst h; exact hQ (.normal, ts, m) (List.mem_singleton.2 rfl)
  | region d pre ops =>
    cases d with
    | true => simp [evalX] at h
    | false =>
      simp only [evalX] at h
      obtain ⟨o, ho, rfl⟩ := Option.map_eq_some_iff.1 h
      exact runX_ok ops ts m o ho (hQ o (by simp))
  | draws p pre ops => exact planX_ok p ts m os (by simpa only [evalX] using h) hQ
  | seq a b =>
    unfold evalX at h
    simp only at h
    split at h
    · cases h
    · rename_i os1 h1
      refine ihk a ts m os1 h1 _ ?_
      split at h
      · rename_i ks keep c
        split at h
        · cases h
        · rename_i os2 h2
          have hb := bindX_ok (Q := Q) h hQ
          have hp := packX_ok (J := wpA Γ N c Q) (Q := Q) h2 (fun o ho => thenA_mono (fun ts m hh => by obtain ⟨l, e, q⟩ := hh; exact ihk c ts m l e Q q) (hb o (nub_mem ho)))
          exact hp
      · have hb := bindX_ok (Q := Q) h hQ
        exact fun o ho => thenA_mono (fun ts m hh => by obtain ⟨l, e, q⟩ := hh; exact ihk _ ts m l e Q q) (hb o ho)
  | cond c a b =>
    unfold evalX at h
    simp only at h
    split at h
    · cases h
    · rename_i t ht
      refine condX_ok ht (fun e => ?_) (fun e => ?_)
      · subst e; exact ihk a ts m os h Q hQ
      · subst e; exact ihk b ts m os h Q hQ
  | block i b =>
    simp only [evalX] at h
    obtain ⟨os1, h1, rfl⟩ := Option.map_eq_some_iff.1 h
    exact ihk b ts m os1 h1 _ fun o ho => outBlk_ok (hQ _ (List.mem_map_of_mem ho))
  | loop keep b =>
    unfold evalX at h
    simp only at h
    split at h
    · cases h
    · rename_i p hp
      let I : Nat → Tm → List Blk → Prop := fun j ts m => ∃ l, loopX N keep (evalX Γ N k b) j ts m = some l ∧ ∀ o ∈ l, Q o.1 o.2.1 o.2.2
      refine ⟨I, k, canonX_ok (J := I k) hp ⟨os, h, hQ⟩, ?_⟩
      rintro j ts' m' ⟨l, e1, e2⟩
      cases j with
      | zero => cases e1
      | succ j =>
        unfold loopX at e1
        split at e1
        · cases e1
        · rename_i os1 h1
          split at e1
          · cases e1
          · rename_i os2 h2
            refine ihk b ts' m' os1 h1 _ fun o ho => ?_
            have hb := bindX_ok (Q := Q) e1 e2
            have hp2 := packX_ok (J := I j) (Q := Q) h2 (fun o ho => hb o (nub_mem ho)) o ho
            exact thenA_mono (fun ts2 m2 hh => ⟨j, Nat.lt_succ_self j, by rwa [tkill_nil] at hh⟩) hp2
  | drop ks b =>
    simp only [evalX] at h
    exact ihk b _ m os h Q hQ
  | pack keep b =>
    unfold evalX at h
    simp only at h
    split at h
    · cases h
    · rename_i p hp
      exact canonX_ok (J := wpA Γ N b Q) hp (ihk b _ _ os h Q hQ)
  | seal_ d b =>
    unfold evalX at h
    simp only at h
    split at h
    · cases h
    · rename_i p hp
      show optK (sealA d ts m) _
      rw [hp]
      exact ihk b _ _ os h Q hQ
  | open_ d b => simp [evalX] at h
  | close_ d b => simp [evalX] at h
  | conc d b => simp [evalX] at h
  | bad => simp [evalX] at h
  | exit i =>
    simp only [evalX, Option.some.injEq] at h
    subst h; exact hQ (.exit i, ts, m) (List.mem_singleton.2 rfl)
  | ret =>
    simp only [evalX, Option.some.injEq] at h
    subst h; exact hQ (.ret, ts, m) (List.mem_singleton.2 rfl)

/-! ### Functions -/
def finX (N : Nat) (m : List Blk) (v : AV) : Option (AV × List Blk) :=
  let w := v.res m
  let ids := closeIds m 8 (addNew (List.range N) w.ids)
  if subOk ids m w.ids = true ∧ ids.take N = List.range N then some (w.mapId (idx ids), subM ids m) else none
theorem finX_ok {N : Nat} {m m1 : List Blk} {v v1 : AV} (h : finX N m v = some (v1, m1)) : finV N m v v1 m1 := by
  unfold finX at h
  simp only at h
  split at h
  · rename_i hc
    cases h
    exact ⟨[], _, hc.1, hc.2, rfl, rfl⟩
  · cases h
def retV (N : Nat) (rs : List ARes) (ts : Tm) (m : List Blk) : Option (Res × List Blk) :=
  match resAll ts m rs with
  | none => none
  | some vs => (finX N m (oneOr vs)).map fun p => (.ret p.1, p.2)
theorem retV_ok {N : Nat} {rs : List ARes} {r : Res} {m1 : List Blk} {ts : Tm} {m : List Blk} (h : retV N rs ts m = some (r, m1)) : ∃ v1, r = .ret v1 ∧ ∃ vs v2, resAll ts m rs = some vs ∧ finV N m (oneOr vs) v2 m1 ∧ Same v2 v1 := by
  unfold retV at h
  split at h
  · cases h
  · rename_i vs hv
    obtain ⟨⟨v1, m2⟩, hp, he⟩ := Option.map_eq_some_iff.1 h
    cases he
    exact ⟨v1, rfl, vs, v1, hv, finX_ok hp, .rfl _⟩
def retX (N : Nat) (rs : List ARes) (o : Out) : Option (Res × List Blk) :=
  match o.1 with
  | .exit _ => none
  | .pan v => (finX N o.2.2 v).map fun p => (.pan p.1, p.2)
  | .normal => retV N rs o.2.1 o.2.2
  | .ret => retV N rs o.2.1 o.2.2
theorem retX_ok {N : Nat} {rs : List ARes} {r : Res} {m1 : List Blk} {o : Out} (h : retX N rs o = some (r, m1)) : finQ N rs r m1 o.1 o.2.1 o.2.2 := by
  obtain ⟨e, ts, m⟩ := o
  cases e with
  | exit i => exact absurd h (by simp [retX])
  | pan v =>
    simp only [retX] at h
    obtain ⟨⟨v1, m2⟩, hp, he⟩ := Option.map_eq_some_iff.1 h
    cases he
    exact ⟨[], _, finX_ok hp, rfl⟩
  | normal =>
    obtain ⟨v1, rfl, hh⟩ := retV_ok (ts := ts) (m := m) h
    exact hh
  | ret =>
    obtain ⟨v1, rfl, hh⟩ := retV_ok (ts := ts) (m := m) h
    exact hh
def eqRes : Res × List Blk → Res × List Blk → Bool
  | (.ret a, m), (.ret b, n) => eqAV a b && eqMem m n
  | (.pan a, m), (.pan b, n) => eqAV a b && eqMem m n
  | _, _ => false
theorem eqRes_ok {a b : Res × List Blk} (h : eqRes a b = true) : a = b := by
  unfold eqRes at h
  split at h
  · simp only [Bool.and_eq_true] at h
    rw [eqAV_ok h.1, eqMem_ok h.2]
  · simp only [Bool.and_eq_true] at h
    rw [eqAV_ok h.1, eqMem_ok h.2]
  · cases h
/-- What all orders come to. -/
def allX (N : Nat) (rs : List ARes) : List Out → Option (Res × List Blk)
  | [] => none
  | [o] => retX N rs o
  | o :: l => match retX N rs o, allX N rs l with
    | some a, some b => if eqRes a b = true then some a else none
    | _, _ => none
theorem allX_ok {N : Nat} {rs : List ARes} {x : Res × List Blk} : ∀ {l : List Out}, allX N rs l = some x → ∀ o ∈ l, retX N rs o = some x
  | [], h, _, _ => by simp [allX] at h
  | [o], h, o', ho => by rw [List.mem_singleton.1 ho]; exact h
  | o :: p :: l, h, o', ho => by
    unfold allX at h
    split at h
    · rename_i a b ha hb
      split at h
      · rename_i he
        cases h
        have hab := eqRes_ok he
        rcases List.mem_cons.1 ho with rfl | ho
        · exact ha
        · exact allX_ok (hab ▸ hb) o' ho
      · cases h
    · cases h
def bodyX (Γ : Env) (fuel : Nat) (ac : ACode) (rs : List ARes) : Spec := fun args mem =>
  match evalX Γ mem.length fuel ac (entry 0 args) mem with
  | none => none
  | some os => allX mem.length rs os
theorem bodyX_ok {Γ : Env} {fuel : Nat} {ac : ACode} {rs : List ARes} : WB Γ ac rs (bodyX Γ fuel ac rs) := by
  intro args mem r mem1 h
  unfold bodyX at h
  split at h
  · cases h
  · rename_i os hos
    exact evalX_ok fuel ac _ mem os hos _ fun o ho => retX_ok (allX_ok h o ho)

/-- What is known of functions, so many calls deep: some by contracts, others by their bodies. -/
def envX (tb : FuncId → Option (Nat × ACode × List ARes)) (Γ0 : Env) (fuel : Nat) : Nat → Env
  | 0 => Γ0
  | k + 1 => fun f => match Γ0 f with
    | some p => some p
    | none => match tb f with
      | none => none
      | some p => some (List.replicate p.1 true, bodyX (envX tb Γ0 fuel k) fuel p.2.1 p.2.2)
theorem envX_ok {P : Program} {tb : FuncId → Option (Nat × ACode × List ARes)} {Γ0 : Env} {fuel : Nat} (hmix : P.follows .mixedOrders = true) (h0 : EnvOk P Γ0) (ht : ∀ f p, tb f = some p → Good P f p.2.1 p.2.2) : ∀ k, EnvOk P (envX tb Γ0 fuel k)
  | 0 => h0
  | k + 1 => by
    intro f ms sp h
    unfold envX at h
    split at h
    · rename_i p hp
      cases h
      exact h0 f ms sp hp
    · split at h
      · cases h
      · rename_i p hp
        cases h
        exact (ht f p hp).ok (envX_ok hmix h0 ht k) hmix _ bodyX_ok

/-! ### Notes to a body -/
inductive Pl where
  | d
  | s
  | t (i : Nat) (n : Pl)
  | a (i : Nat) (n o : Pl)
inductive Nt where
  | i
  | q (a b : Nt)
  | c (a b : Nt)
  | b (n : Nt)
  | l (keep : List Nat) (n : Nt)
  | d (p : Pl)
  | s (k : Nat) (n : Nt)
  | x (ks : List Nat) (n : Nt)
  | p (keep : List Nat) (n : Nt)
def planP (ops : List AOper) : Pl → Plan
  | .d => .done
  | .s => .stop
  | .t i n => .tak i (ops.getD i default) (planP ops n)
  | .a i n o => .alt i (ops.getD i default) (planP ops n) (planP ops o)
theorem planP_pairs (ops : List AOper) : ∀ p : Pl, ((planP ops p).pairs ops).map Prod.fst = ((planP ops p).pairs ops).map Prod.snd
  | .d => rfl
  | .s => rfl
  | .t i n => by simp only [planP, Plan.pairs, List.map_cons, planP_pairs ops n]
  | .a i n o => by simp only [planP, Plan.pairs, List.map_cons, List.map_append, planP_pairs ops n, planP_pairs ops o]
def noted : Nt → ACode → Option ACode
  | .i, .skip => some .skip
  | .i, .region false p ops => some (.region false p ops)
  | .i, .exit j => some (.exit j)
  | .i, .ret => some .ret
  | .i, .bad => some .bad
  | .q m n, .seq a b => match noted m a, noted n b with
    | some a, some b => some (.seq a b)
    | _, _ => none
  | .c m n, .cond c a b => match noted m a, noted n b with
    | some a, some b => some (.cond c a b)
    | _, _ => none
  | .b n, .block j b => (noted n b).map (.block j)
  | .l keep n, .loop _ b => (noted n b).map (.loop keep)
  | .d pl, .region true pre ops => some (.draws (planP ops pl) pre ops)
  | .s k n, b => (noted n b).map (.seal_ k)
  | .x ks n, b => (noted n b).map (.drop ks)
  | .p keep n, b => (noted n b).map (.pack keep)
  | _, _ => none
theorem noted_ok : ∀ (n : Nt) (a ac : ACode), noted n a = some ac → ac.plain = a.plain ∧ ac.pairs.map Prod.fst = ac.pairs.map Prod.snd := by
  intro n
  induction n with
  | i =>
    intro a ac h
    cases a with
    | region d p ops =>
      cases d
      · have h : some (ACode.region false p ops) = some ac := h
        cases h; exact ⟨rfl, rfl⟩
      · exact absurd h (by simp [noted])
    | skip => have h : some ACode.skip = some ac := h; cases h; exact ⟨rfl, rfl⟩
    | exit j => have h : some (ACode.exit j) = some ac := h; cases h; exact ⟨rfl, rfl⟩
    | ret => have h : some ACode.ret = some ac := h; cases h; exact ⟨rfl, rfl⟩
    | bad => have h : some ACode.bad = some ac := h; cases h; exact ⟨rfl, rfl⟩
    | _ => exact absurd h (by simp [noted])
  | q m n ih1 ih2 => intro a ac h; cases a <;> simp only [noted] at h <;> first
      | (cases h; done)
      | (split at h
         · rename_i h1 h2
           cases h
           obtain ⟨a1, a2⟩ := ih1 _ _ h1
           obtain ⟨b1, b2⟩ := ih2 _ _ h2
           exact ⟨by simp only [ACode.plain, a1, b1], by simp only [ACode.pairs, List.map_append, a2, b2]⟩
         · cases h)
  | c m n ih1 ih2 => intro a ac h; cases a <;> simp only [noted] at h <;> first
      | (cases h; done)
      | (split at h
         · rename_i h1 h2
           cases h
           obtain ⟨a1, a2⟩ := ih1 _ _ h1
           obtain ⟨b1, b2⟩ := ih2 _ _ h2
           exact ⟨by simp only [ACode.plain, a1, b1], by simp only [ACode.pairs, List.map_append, a2, b2]⟩
         · cases h)
  | b n ih => intro a ac h; cases a <;> simp only [noted] at h <;> first
      | (cases h; done)
      | (obtain ⟨x, hx, rfl⟩ := Option.map_eq_some_iff.1 h
         obtain ⟨a1, a2⟩ := ih _ _ hx
         exact ⟨by simp only [ACode.plain, a1], by simp only [ACode.pairs, a2]⟩)
  | l keep n ih => intro a ac h; cases a <;> simp only [noted] at h <;> first
      | (cases h; done)
      | (obtain ⟨x, hx, rfl⟩ := Option.map_eq_some_iff.1 h
         obtain ⟨a1, a2⟩ := ih _ _ hx
         exact ⟨by simp only [ACode.plain, a1], by simp only [ACode.pairs, a2]⟩)
  | d pl =>
    intro a ac h
    cases a with
    | region d p ops =>
      cases d
      · exact absurd h (by simp [noted])
      · have h : some (ACode.draws (planP ops pl) p ops) = some ac := h
        cases h; exact ⟨rfl, planP_pairs ops pl⟩
    | _ => exact absurd h (by simp [noted])
  | s k n ih => intro a ac h; unfold noted at h; obtain ⟨y, hy, rfl⟩ := Option.map_eq_some_iff.1 h; have := ih a y hy; exact this
  | x ks n ih => intro a ac h; unfold noted at h; obtain ⟨y, hy, rfl⟩ := Option.map_eq_some_iff.1 h; have := ih a y hy; exact this
  | p keep n ih => intro a ac h; unfold noted at h; obtain ⟨y, hy, rfl⟩ := Option.map_eq_some_iff.1 h; have := ih a y hy; exact this

/-! ### Bodies as the program has them -/
theorem oper_plain {P : Program} {ops : Array Oper} {o : Oper} {x : AOper} (h : compOper P ops o = some x) : x.plain = x := by
  unfold compOper at h
  split at h
  · cases h
  · split at h
    · cases h; rfl
    · obtain ⟨d, _, rfl⟩ := Option.map_eq_some_iff.1 h
      rfl
theorem opers_plain {P : Program} {ops : Array Oper} : ∀ {l : List Oper} {al : List AOper}, l.mapM (compOper P ops) = some al → al.map AOper.plain = al
  | [], al, h => by simp at h; subst h; rfl
  | o :: l, al, h => by
    simp only [List.mapM_cons] at h
    cases h1 : compOper P ops o with
    | none => simp [h1] at h
    | some x =>
      cases h2 : l.mapM (compOper P ops) with
      | none => simp [h1, h2] at h
      | some xs =>
        simp [h1, h2] at h
        subst h
        rw [List.map_cons, oper_plain h1, opers_plain h2]
theorem code_plain {P : Program} : ∀ (c : Code) (a : ACode), compCode P c = some a → a.plain = a := by
  intro c
  induction c with
  | skip => intro a h; have h : some ACode.skip = some a := h; cases h; rfl
  | exit i => intro a h; have h : some (ACode.exit i) = some a := h; cases h; rfl
  | ret => intro a h; have h : some ACode.ret = some a := h; cases h; rfl
  | refuse s => intro a h; have h : some ACode.bad = some a := h; cases h; rfl
  | region i ops d =>
    intro a h
    simp only [compCode] at h
    obtain ⟨l, hl, rfl⟩ := Option.map_eq_some_iff.1 h
    simp only [ACode.plain, opers_plain hl]
  | seq a b iha ihb =>
    intro x h
    unfold compCode at h
    split at h
    · rename_i h1 h2
      cases h
      simp only [ACode.plain, iha _ h1, ihb _ h2]
    · cases h
  | cond c a b iha ihb =>
    intro x h
    unfold compCode at h
    split at h
    · rename_i h1 h2
      cases h
      simp only [ACode.plain, iha _ h1, ihb _ h2]
    · cases h
  | block i b ih =>
    intro x h
    simp only [compCode] at h
    obtain ⟨l, hl, rfl⟩ := Option.map_eq_some_iff.1 h
    simp only [ACode.plain, ih _ hl]
  | loop b ih =>
    intro x h
    simp only [compCode] at h
    obtain ⟨l, hl, rfl⟩ := Option.map_eq_some_iff.1 h
    simp only [ACode.plain, ih _ hl]
  | _ => intro x h; exact absurd h (by simp [compCode])
/-- A function's body, compiled and noted. -/
def codeX (P : Program) (f : FuncId) (n : Nt) : Option (Nat × ACode × List ARes) :=
  match P.funcs[f]? with
  | none => none
  | some fn => match fn.body with
    | none => none
    | some c => match compCode P c with
      | none => none
      | some a => match noted n a, fn.results.toList.mapM (compRes P) with
        | some ac, some rs => some (fn.params.size, ac, rs)
        | _, _ => none
/-- What is to be reckoned once, of a function and its notes. -/
def fineX (P : Program) (f : FuncId) (n : Nt) : Bool :=
  match P.funcs[f]?, codeX P f n with
  | some fn, some p => p.2.1.chk ⟨fn.ntmps, []⟩ && !(fn.name == "runtime.NumGoroutine")
  | _, _ => false
theorem codeX_good {P : Program} {f : FuncId} {n : Nt} {p : Nat × ACode × List ARes} (hf : fineX P f n = true) (h : codeX P f n = some p) : Good P f p.2.1 p.2.2 := by
  unfold fineX at hf
  rw [h] at hf
  unfold codeX at h
  split at h
  · cases h
  · rename_i fn hfn
    rw [hfn] at hf
    simp only [Bool.and_eq_true, Bool.not_eq_true'] at hf
    split at h
    · cases h
    · rename_i c hc
      split at h
      · cases h
      · rename_i a ha
        split at h
        · rename_i ac rs h1 h2
          cases h
          obtain ⟨e1, e2⟩ := noted_ok n a ac h1
          exact ⟨fn, c, hfn, hc, by rw [e1, code_plain c a ha, ha], ⟨hf.1, e2⟩, h2, hf.2⟩
        · cases h
/-- The functions of a list, with their notes. -/
def tabX (P : Program) : List (FuncId × Nt) → FuncId → Option (Nat × ACode × List ARes)
  | [], _ => none
  | (g, n) :: l, f => if g == f then codeX P g n else tabX P l f
theorem tabX_good {P : Program} : ∀ {l : List (FuncId × Nt)}, (∀ p ∈ l, fineX P p.1 p.2 = true) → ∀ f p, tabX P l f = some p → Good P f p.2.1 p.2.2
  | [], _, _, _, h => by cases h
  | (g, n) :: l, hl, f, p, h => by
    unfold tabX at h
    split at h
    · rename_i e
      have e := eq_of_beq e
      subst e
      exact codeX_good (hl (g, n) (by simp)) h
    · exact tabX_good (fun p hp => hl p (by simp [hp])) f p h

/-! ### Bodies that defer a closure which recovers -/
def isPan : Out → Bool
  | (.pan _, _, _) => true
  | _ => false
def deferX (Γ : Env) (fuel : Nat) (ac0 ac : ACode) (rs : List ARes) (c1 c2 d : Nat) : Spec := fun args mem =>
  match evalX Γ mem.length fuel ac0 (entry 0 args) mem with
  | some [(.normal, ts0, m0)] => match tget ts0 c1, tget ts0 c2 with
    | .ptr i1 0 0, .ptr i2 0 0 => match m0[i1]?, m0[i2]? with
      | some (.var [_]), some (.var [_]) => if i1 ≠ i2 ∧ mem.length ≤ m0.length then (match evalX Γ m0.length fuel ac (tput ts0 (some d) .any) m0 with
        | none => none
        | some os => if os.any isPan = true then none else allX mem.length rs os) else none
      | _, _ => none
    | _, _ => none
  | _ => none
theorem deferX_ok {P : Program} {Γ : Env} (hΓ : EnvOk P Γ) (hmix : P.follows .mixedOrders = true) {fuel : Nat} {f : FuncId} {fn : Func} {c0 c : Code} {id g d c1 c2 : Nat} {o1 o2 : Oper} {ats : Array TypeId} {ac0 ac : ACode} {rs : List ARes} {eff : AV → Option (Value × Value)}
    (hf : P.funcs[f]? = some fn) (hb : fn.body = some (.seq c0 (.seq (.region id #[o1, o2] false) c)))
    (hc0 : compCode P c0 = some ac0.plain) (hfine0 : Fine ⟨fn.ntmps, []⟩ ac0) (hc : compCode P c = some ac.plain) (hfine : Fine ⟨fn.ntmps, [c1, c2]⟩ ac)
    (hr : fn.results.toList.mapM (compRes P) = some rs) (hname : (fn.name == "runtime.NumGoroutine") = false)
    (h1 : o1.op = .makeFunc (.func g) #[] #[.tmp c1, .tmp c2]) (hd1 : o1.dst = some d) (hg1 : o1.guard = none)
    (h2 : o2.op = .defer { callee := .value (.tmp d), args := #[], argTypes := ats }) (hd2 : o2.dst = none) (hg2 : o2.guard = none)
    (hlt : d < fn.ntmps) (hlt1 : c1 < fn.ntmps) (hlt2 : c2 < fn.ntmps) (hdc : d ≠ c1 ∧ d ≠ c2 ∧ c1 ≠ c2) (hgo : Enters P g) (hcat : Catches P g eff) : CallOk P f (deferX Γ fuel ac0 ac rs c1 c2 d) := by
  refine ok_of_defer hΓ hmix hf hb hc0 hfine0 hc hfine hr hname h1 hd1 hg1 h2 hd2 hg2 hlt hlt1 hlt2 hdc hgo hcat _ fun args mem r mem1 h => ?_
  unfold deferX at h
  split at h
  · rename_i ts0 m0 he0
    split at h
    · rename_i i1 i2 ht1 ht2
      split at h
      · rename_i z1 z2 hm1 hm2
        split at h
        · rename_i hcnd
          split at h
          · cases h
          · rename_i os hos
            split at h
            · cases h
            · rename_i hpan
              refine ⟨ts0, m0, i1, i2, z1, z2, hcnd.2, ?_, ht1, ht2, hcnd.1, hm1, hm2, ?_⟩
              · exact evalX_ok fuel ac0 _ mem _ he0 _ fun o ho => by rw [List.mem_singleton.1 ho]; exact ⟨rfl, rfl⟩
              · refine evalX_ok fuel ac _ m0 _ hos _ fun o ho => ?_
                have hr := retX_ok (allX_ok h o ho)
                obtain ⟨e, ts, m⟩ := o
                cases e with
                | normal => exact hr
                | ret => exact hr
                | exit i => exact hr.elim
                | pan v => exact absurd (List.any_eq_true.2 ⟨_, ho, rfl⟩) hpan
        · cases h
      · cases h
    · cases h
  · cases h
end Go.Proofs.YtajpaagbfmjacaaGreatDoor.Am
