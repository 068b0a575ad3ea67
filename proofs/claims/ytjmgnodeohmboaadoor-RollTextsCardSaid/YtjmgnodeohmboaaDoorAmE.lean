/-
  THE ABSTRACT MACHINE, FIFTEENTH PART: how bodies are evaluated: a region by the simplifier, as data; the rest by rules. No program is named here.
-/
import Derived.Test.YtjmgnodeohmboaaDoorAmD
namespace Go.Proofs.YtjmgnodeohmboaaDoor.Am
set_option linter.unusedSimpArgs false
set_option linter.unusedVariables false
open Go

/-- What the simplifier shall not look into. -/
inductive Tag.{u} {α : Sort u} (a : α) : Type where
  | mk

/-- How a region ends. -/
inductive Seg where
  | bad
  | fin (ts : Tm) (m : List Blk)
  | pan (v : AV) (m : List Blk)
  | both (a b : Seg)

section
variable {α β : Type} {Γ : Env} {N : Nat} {Q : Post} {ts ts' : Tm} {m m' : List Blk}

open Classical in
noncomputable def needS (c : Prop) (s : Seg) : Seg := @ite Seg c (propDecidable c) s .bad
def gateS (t : Bool) (y n : Seg) (_ : Tag y) (_ : Tag n) : Seg := match t with
  | true => y
  | false => n
def lookS (K : α → Seg) (_ : Tag K) (o : Option α) : Seg := match o with
  | some x => K x
  | none => .bad
def stepS (K : AV → List Blk → Seg) (_ : Tag K) (o : Option (Res × List Blk)) : Seg := match o with
  | some (.ret v, m) => K v m
  | some (.pan v, m) => .pan v m
  | none => .bad
def stepF (K : AV → List Blk → Seg) (_ : Tag K) (o : Option (Res × List Blk)) : Seg := match o with
  | some (.ret v, m) => K v m
  | some (.pan _, _) => .bad
  | none => .bad
def guardS (b : Bool) (d : Nat) (yes no : Tm → Seg) (_ : Tag yes) (_ : Tag no) (a : AV) (ts : Tm) : Seg :=
  match a with
  | .v (.bool t) => gateS (t == b) (yes (tset d (.v (.bool b)) ts)) (no (tset d (.v (.bool !b)) ts)) .mk .mk
  | .v (.tuple ⟨[]⟩) => no ts
  | _ => .bad

/-- A region's operations, as data. -/
noncomputable def runS (Γ : Env) : List AOper → Tm → List Blk → Seg
  | [], ts, m => .fin ts m
  | ⟨d, op, none, ks⟩ :: r, ts, m => stepS (fun v m' => runS Γ r (tput (tkill ks ts) d v) m') .mk (stepA Γ (tget ts) m op)
  | ⟨d, op, some (k, b), ks⟩ :: r, ts, m => guardS b k (fun ts => stepS (fun v m' => runS Γ r (tput (tkill ks ts) d v) m') .mk (stepA Γ (tget ts) m op)) (fun ts => runS Γ r (tput (tkill ks ts) d skipV) m) .mk .mk (tget ts k) ts

/-- A region in one of its orders, as data. -/
noncomputable def planS (Γ : Env) : Plan → Tm → List Blk → Seg
  | .done, ts, m => .fin ts m
  | .stop, _, _ => .bad
  | .tak _ ⟨d, op, none, _⟩ nx, ts, m => needS (freeA (tget ts) op = true) (stepF (fun v _ => planS Γ nx (tput ts d v) m) .mk (stepA Γ (tget ts) m op))
  | .tak _ ⟨d, op, some (k, b), _⟩ nx, ts, m => guardS b k (fun ts => needS (freeA (tget ts) op = true) (stepF (fun v _ => planS Γ nx (tput ts d v) m) .mk (stepA Γ (tget ts) m op))) (fun ts => planS Γ nx (tput ts d skipV) m) .mk .mk (tget ts k) ts
  | .alt _ ⟨d, op, none, _⟩ nx .stop, ts, m => stepS (fun v m' => planS Γ nx (tput ts d v) m') .mk (stepA Γ (tget ts) m op)
  | .alt _ ⟨d, op, some (k, b), _⟩ nx .stop, ts, m => guardS b k (fun ts => stepS (fun v m' => planS Γ nx (tput ts d v) m') .mk (stepA Γ (tget ts) m op)) (fun ts => planS Γ nx (tput ts d skipV) m) .mk .mk (tget ts k) ts
  | .alt _ ⟨d, op, none, _⟩ nx ot, ts, m => .both (stepS (fun v m' => planS Γ nx (tput ts d v) m') .mk (stepA Γ (tget ts) m op)) (planS Γ ot ts m)
  | .alt _ ⟨d, op, some (k, b), _⟩ nx ot, ts, m => .both (guardS b k (fun ts => stepS (fun v m' => planS Γ nx (tput ts d v) m') .mk (stepA Γ (tget ts) m op)) (fun ts => planS Γ nx (tput ts d skipV) m) .mk .mk (tget ts k) ts) (planS Γ ot ts m)

/-! ### Rules for the simplifier -/
theorem gateS_true (y n : Seg) (g : Tag y) (h : Tag n) : gateS true y n g h = y := rfl
theorem gateS_false (y n : Seg) (g : Tag y) (h : Tag n) : gateS false y n g h = n := rfl
theorem guardS_tt (t : Bool) (d : Nat) (yes no : Tm → Seg) (g : Tag yes) (h : Tag no) : guardS true d yes no g h (.v (.bool t)) ts = gateS t (yes (tset d (.v (.bool true)) ts)) (no (tset d (.v (.bool false)) ts)) .mk .mk := by cases t <;> rfl
theorem guardS_ff (t : Bool) (d : Nat) (yes no : Tm → Seg) (g : Tag yes) (h : Tag no) : guardS false d yes no g h (.v (.bool t)) ts = gateS t (no (tset d (.v (.bool true)) ts)) (yes (tset d (.v (.bool false)) ts)) .mk .mk := by cases t <;> rfl
theorem guardS_no (b : Bool) (d : Nat) (yes no : Tm → Seg) (g : Tag yes) (h : Tag no) : guardS b d yes no g h (.v (.tuple #[])) ts = no ts := rfl
theorem needS_true (s : Seg) : needS True s = s := if_pos trivial
theorem stepS_ret (v : AV) (m : List Blk) (K : AV → List Blk → Seg) (g : Tag K) : stepS K g (some (.ret v, m)) = K v m := rfl
theorem stepS_pan (v : AV) (m : List Blk) (K : AV → List Blk → Seg) (g : Tag K) : stepS K g (some (.pan v, m)) = .pan v m := rfl
theorem stepS_none (K : AV → List Blk → Seg) (g : Tag K) : stepS K g none = .bad := rfl
theorem stepS_if (c : Prop) [Decidable c] (x : Option (Res × List Blk)) (K : AV → List Blk → Seg) (g : Tag K) : stepS K g (if c then x else none) = needS c (stepS K .mk x) := by unfold needS; by_cases h : c <;> simp only [h, if_true, if_false] <;> rfl
theorem stepS_map (f : β → Res × List Blk) (o : Option β) (K : AV → List Blk → Seg) (g : Tag K) : stepS K g (o.map f) = lookS (fun x => stepS K .mk (some (f x))) .mk o := by cases o <;> rfl
theorem stepF_ret (v : AV) (m : List Blk) (K : AV → List Blk → Seg) (g : Tag K) : stepF K g (some (.ret v, m)) = K v m := rfl
theorem stepF_if (c : Prop) [Decidable c] (x : Option (Res × List Blk)) (K : AV → List Blk → Seg) (g : Tag K) : stepF K g (if c then x else none) = needS c (stepF K .mk x) := by unfold needS; by_cases h : c <;> simp only [h, if_true, if_false] <;> rfl
theorem stepF_map (f : β → Res × List Blk) (o : Option β) (K : AV → List Blk → Seg) (g : Tag K) : stepF K g (o.map f) = lookS (fun x => stepF K .mk (some (f x))) .mk o := by cases o <;> rfl
theorem lookS_some (x : α) (K : α → Seg) (g : Tag K) : lookS K g (some x) = K x := rfl
theorem lookS_none (K : α → Seg) (g : Tag K) : lookS K g none = .bad := rfl
theorem lookS_map (f : β → α) (o : Option β) (K : α → Seg) (g : Tag K) : lookS K g (o.map f) = lookS (fun x => K (f x)) .mk o := by cases o <;> rfl
theorem lookS_if (c : Prop) [Decidable c] (x : Option α) (K : α → Seg) (g : Tag K) : lookS K g (if c then x else none) = needS c (lookS K .mk x) := by unfold needS; by_cases h : c <;> simp only [h, if_true, if_false] <;> rfl

/-! ### What is to be shown of a region's end -/
def segP (R : Tm → List Blk → Prop) (S : AV → List Blk → Prop) : Seg → Prop
  | .bad => False
  | .fin ts m => R ts m
  | .pan v m => S v m
  | .both a b => segP R S a ∧ segP R S b

variable {R : Tm → List Blk → Prop} {S : AV → List Blk → Prop}

theorem seg_eval {s s' : Seg} (h : s = s') (k : segP R S s') : segP R S s := by rw [h]; exact k
theorem seg_fin (h : R ts m) : segP R S (.fin ts m) := h
theorem seg_pan {v : AV} (h : S v m) : segP R S (.pan v m) := h
theorem seg_both {a b : Seg} (h : segP R S a) (k : segP R S b) : segP R S (.both a b) := ⟨h, k⟩
theorem seg_need {c : Prop} {s : Seg} (h : c) (k : segP R S s) : segP R S (needS c s) := by unfold needS; rw [if_pos h]; exact k
theorem seg_gate {t : Bool} {y n : Seg} {g : Tag y} {h : Tag n} (h1 : t = true → segP R S y) (h2 : t = false → segP R S n) : segP R S (gateS t y n g h) := by
  cases t
  · exact h2 rfl
  · exact h1 rfl
theorem seg_look {K : α → Seg} {g : Tag K} {o : Option α} (x : α) (h : o = some x) (k : segP R S (K x)) : segP R S (lookS K g o) := by subst h; exact k

theorem optK_step {K : AV → List Blk → Seg} {L : Res × List Blk → Prop} {o : Option (Res × List Blk)} (h1 : ∀ v m, segP R S (K v m) → L (.ret v, m)) (h2 : ∀ v m, S v m → L (.pan v, m)) (h : segP R S (stepS K .mk o)) : optK o L := by
  unfold stepS at h
  split at h
  · exact h1 _ _ h
  · exact h2 _ _ h
  · exact h.elim

theorem guard_ok {d : Nat} {b : Bool} {yes no : Tm → Seg} {Y Z : Tm → Prop} (h1 : ∀ ts, segP R S (yes ts) → Y ts) (h2 : ∀ ts, segP R S (no ts) → Z ts) (h : segP R S (guardS b d yes no .mk .mk (tget ts d) ts)) : skipK ts d Z (guardK ts d b Y Z) := by
  unfold guardS at h
  unfold skipK guardK
  split at h
  · rename_i t ht
    rw [ht]
    cases t <;> cases b <;> simp [gateS] at h ⊢ <;> first | exact h1 _ h | exact h2 _ h
  · rename_i ht
    rw [ht]
    exact h2 _ h
  · exact h.elim

theorem runS_ok : ∀ (l : List AOper) (ts : Tm) (m : List Blk), segP (Q .normal) (fun v m => Q (.pan v) [] m) (runS Γ l ts m) → runW Γ l ts m Q
  | [], ts, m, h => h
  | ⟨d, op, none, ks⟩ :: r, ts, m, h => by
    rw [runS] at h
    simp only [runW, gateK, stepK]
    exact optK_step (fun v m' hh => runS_ok r _ m' hh) (fun v m' hh => hh) h
  | ⟨d, op, some (k, b), ks⟩ :: r, ts, m, h => by
    rw [runS] at h
    simp only [runW, gateK, stepK]
    exact guard_ok (fun ts hh => optK_step (fun v m' hh => runS_ok r _ m' hh) (fun v m' hh => hh) hh) (fun ts hh => runS_ok r _ m hh) h

theorem optK_stepF {K : AV → List Blk → Seg} {L : Res × List Blk → Prop} {o : Option (Res × List Blk)} (h1 : ∀ v m, segP R S (K v m) → L (.ret v, m)) (h : segP R S (stepF K .mk o)) : optK o L := by
  unfold stepF at h
  split at h
  · exact h1 _ _ h
  · exact h.elim
  · exact h.elim

theorem need_ok {c : Prop} {s : Seg} (h : segP R S (needS c s)) : c ∧ segP R S s := by
  unfold needS at h
  split at h
  · exact ⟨‹_›, h⟩
  · exact h.elim

theorem planS_ok : ∀ (p : Plan) (ts : Tm) (m : List Blk), segP (Q .normal) (fun v m => Q (.pan v) [] m) (planS Γ p ts m) → planW Γ p ts m Q
  | .done, ts, m, h => by rw [planS] at h; rw [planW]; exact h
  | .stop, ts, m, h => by rw [planW]; trivial
  | .tak i ⟨d, op, none, ks⟩ nx, ts, m, h => by
    rw [planS] at h
    rw [planW]
    obtain ⟨h1, h2⟩ := need_ok h
    exact ⟨h1, optK_stepF (fun v m' hh => planS_ok nx _ m hh) h2⟩
  | .tak i ⟨d, op, some (k, b), ks⟩ nx, ts, m, h => by
    rw [planS] at h
    rw [planW]
    simp only [gateK]
    refine guard_ok (fun ts hh => ?_) (fun ts hh => planS_ok nx _ m hh) h
    obtain ⟨h1, h2⟩ := need_ok hh
    exact ⟨h1, optK_stepF (fun v m' hh => planS_ok nx _ m hh) h2⟩
  | .alt i ⟨d, op, none, ks⟩ nx ot, ts, m, h => by
    rw [planW]
    cases ot <;> rw [planS] at h
    case stop => exact ⟨optK_step (fun v m' hh => planS_ok nx _ m' hh) (fun v m' hh => hh) h, by rw [planW]; trivial⟩
    all_goals first | exact ⟨optK_step (fun v m' hh => planS_ok nx _ m' hh) (fun v m' hh => hh) h.1, planS_ok _ ts m h.2⟩ | (intro hc; cases hc)
  | .alt i ⟨d, op, some (k, b), ks⟩ nx ot, ts, m, h => by
    rw [planW]
    cases ot <;> rw [planS] at h
    case stop => exact ⟨guard_ok (fun ts hh => optK_step (fun v m' hh => planS_ok nx _ m' hh) (fun v m' hh => hh) hh) (fun ts hh => planS_ok nx _ m hh) h, by rw [planW]; trivial⟩
    all_goals first | exact ⟨guard_ok (fun ts hh => optK_step (fun v m' hh => planS_ok nx _ m' hh) (fun v m' hh => hh) hh) (fun ts hh => planS_ok nx _ m hh) h.1, planS_ok _ ts m h.2⟩ | (intro hc; cases hc)

/-! ### Rules for the control flow: the state is known, code goes from statement to statement -/
theorem wp_eqT {c : ACode} (h : ts = ts') (k : wpA Γ N c Q ts' m) : wpA Γ N c Q ts m := by rw [h]; exact k
theorem wp_region {p : List (List Nat)} {ops : List AOper} (h : segP (Q .normal) (fun v m => Q (.pan v) [] m) (runS Γ ops ts m)) : wpA Γ N (.region false p ops) Q ts m := runS_ok ops ts m h
theorem wp_draws {p : Plan} {pre : List (List Nat)} {ops : List AOper} (h : segP (Q .normal) (fun v m => Q (.pan v) [] m) (planS Γ p ts m)) : wpA Γ N (.draws p pre ops) Q ts m := planS_ok p ts m h
theorem wp_regionS {p : List (List Nat)} {ops : List AOper} {b : ACode} (h : segP (wpA Γ N b Q) (fun v m => Q (.pan v) [] m) (runS Γ ops ts m)) : wpA Γ N (.seq (.region false p ops) b) Q ts m := runS_ok (Q := AExit.thenA (wpA Γ N b Q) Q) ops ts m h
theorem wp_drawsS {p : Plan} {pre : List (List Nat)} {ops : List AOper} {b : ACode} (h : segP (wpA Γ N b Q) (fun v m => Q (.pan v) [] m) (planS Γ p ts m)) : wpA Γ N (.seq (.draws p pre ops) b) Q ts m := planS_ok (Q := AExit.thenA (wpA Γ N b Q) Q) p ts m h
theorem thenA_thenA {R1 R2 : Tm → List Blk → Prop} : AExit.thenA R1 (AExit.thenA R2 Q) = AExit.thenA (fun ts m => R1 ts m) (AExit.thenA R2 Q) := rfl
theorem wp_assoc {a b c : ACode} (h : wpA Γ N (.seq a (.seq b c)) Q ts m) : wpA Γ N (.seq (.seq a b) c) Q ts m := by
  have e : AExit.thenA (wpA Γ N (.seq b c) Q) Q = AExit.thenA (wpA Γ N b (AExit.thenA (wpA Γ N c Q) Q)) (AExit.thenA (wpA Γ N c Q) Q) := by
    funext e ts m; cases e <;> rfl
  simp only [wpA] at h ⊢
  rw [← e]; exact h
theorem wp_skipS {b : ACode} (h : wpA Γ N b Q ts m) : wpA Γ N (.seq .skip b) Q ts m := h
theorem wp_retS {b : ACode} (h : Q .ret ts m) : wpA Γ N (.seq .ret b) Q ts m := h
theorem wp_exitS {i : Nat} {b : ACode} (h : Q (.exit i) ts m) : wpA Γ N (.seq (.exit i) b) Q ts m := h
theorem wp_dropS {ks : List Nat} {a b : ACode} (h : wpA Γ N (.seq a b) Q (tkill ks ts) m) : wpA Γ N (.seq (.drop ks a) b) Q ts m := h
theorem wp_sealS {d : Nat} {a b : ACode} {p : Tm × List Blk} (h : sealA d ts m = some p) (k : wpA Γ N (.seq a b) Q p.1 p.2) : wpA Γ N (.seq (.seal_ d a) b) Q ts m := by
  simp only [wpA] at k ⊢; rw [h]; exact k
theorem wp_close {d : Nat} {b : ACode} {p : Tm × List Blk} (h : closeA d ts m = some p) (k : wpA Γ N b Q p.1 p.2) : wpA Γ N (.close_ d b) Q ts m := by
  simp only [wpA]; rw [h]; exact k
theorem wp_closeS {d : Nat} {a b : ACode} {p : Tm × List Blk} (h : closeA d ts m = some p) (k : wpA Γ N (.seq a b) Q p.1 p.2) : wpA Γ N (.seq (.close_ d a) b) Q ts m := by
  simp only [wpA] at k ⊢; rw [h]; exact k
theorem wp_open {d : Nat} {b : ACode} (h : openA d ts m fun ts m => wpA Γ N b Q ts m) : wpA Γ N (.open_ d b) Q ts m := h
theorem wp_openS {d : Nat} {a b : ACode} (h : openA d ts m fun ts m => wpA Γ N (.seq a b) Q ts m) : wpA Γ N (.seq (.open_ d a) b) Q ts m := h
theorem wp_conc {d : Nat} {b : ACode} (h : concA d ts fun ts => wpA Γ N b Q ts m) : wpA Γ N (.conc d b) Q ts m := h
theorem wp_concS {d : Nat} {a b : ACode} (h : concA d ts fun ts => wpA Γ N (.seq a b) Q ts m) : wpA Γ N (.seq (.conc d a) b) Q ts m := h
theorem wp_pack {ks : List Nat} {b : ACode} (h : into N ks (wpA Γ N b Q) ts m) : wpA Γ N (.pack ks b) Q ts m := h
theorem wp_packS {ks : List Nat} {a b : ACode} (h : into N ks (wpA Γ N (.seq a b) Q) ts m) : wpA Γ N (.seq (.pack ks a) b) Q ts m := h
theorem wp_seal {d : Nat} {b : ACode} {p : Tm × List Blk} (h : sealA d ts m = some p) (k : wpA Γ N b Q p.1 p.2) : wpA Γ N (.seal_ d b) Q ts m := by
  simp only [wpA]; rw [h]; exact k
theorem wp_blockS {i : Nat} {a b : ACode} (h : wpA Γ N a (AExit.inBlk i (AExit.thenA (wpA Γ N b Q) Q)) ts m) : wpA Γ N (.seq (.block i a) b) Q ts m := h
theorem wp_skip' (h : Q .normal ts m) : wpA Γ N .skip Q ts m := h
theorem wp_ret' (h : Q .ret ts m) : wpA Γ N .ret Q ts m := h
theorem wp_exit' {i : Nat} (h : Q (.exit i) ts m) : wpA Γ N (.exit i) Q ts m := h
theorem wp_drop {ks : List Nat} {a : ACode} (h : wpA Γ N a Q (tkill ks ts) m) : wpA Γ N (.drop ks a) Q ts m := h
theorem wp_block' {i : Nat} {a : ACode} (h : wpA Γ N a (AExit.inBlk i Q) ts m) : wpA Γ N (.block i a) Q ts m := h
theorem guardK_of {d : Nat} {t : Bool} {yes no : Tm → Prop} (ht : tget ts d = .v (.bool t)) (h1 : t = true → yes ts) (h2 : t = false → no ts) : guardK ts d true yes no := by
  have hs : ∀ u, t = u → tset d (.v (.bool u)) ts = ts := fun u hu => by subst hu; rw [← ht, tset_same]
  unfold guardK
  rw [ht]
  refine ⟨fun e => ?_, fun e => ?_⟩
  · rw [hs true e]; exact h1 e
  · rw [show (!true) = false from rfl, hs false e]; exact h2 e
theorem wp_condS {d : Nat} {t : Bool} {a b c : ACode} (ht : tget ts d = .v (.bool t)) (h1 : t = true → wpA Γ N (.seq a c) Q ts m) (h2 : t = false → wpA Γ N (.seq b c) Q ts m) : wpA Γ N (.seq (.cond (.t d) a b) c) Q ts m :=
  guardK_of (yes := fun ts => wpA Γ N a (AExit.thenA (wpA Γ N c Q) Q) ts m) (no := fun ts => wpA Γ N b (AExit.thenA (wpA Γ N c Q) Q) ts m) ht h1 h2
theorem wp_cond' {d : Nat} {t : Bool} {a b : ACode} (ht : tget ts d = .v (.bool t)) (h1 : t = true → wpA Γ N a Q ts m) (h2 : t = false → wpA Γ N b Q ts m) : wpA Γ N (.cond (.t d) a b) Q ts m :=
  guardK_of (yes := fun ts => wpA Γ N a Q ts m) (no := fun ts => wpA Γ N b Q ts m) ht h1 h2
/-- Two ways, by a truth value. -/
def condP (v : AV) (A B : Prop) : Prop := match v with
  | .v (.bool t) => (t = true → A) ∧ (t = false → B)
  | _ => False
theorem cond_v {t : Bool} {A B : Prop} (h1 : t = true → A) (h2 : t = false → B) : condP (.v (.bool t)) A B := ⟨h1, h2⟩
theorem cond_t {A B : Prop} (h1 : A) : condP (.v (.bool true)) A B := ⟨fun _ => h1, fun h => (by cases h)⟩
theorem cond_f {A B : Prop} (h1 : B) : condP (.v (.bool false)) A B := ⟨fun h => (by cases h), fun _ => h1⟩
theorem wp_condVS {d : Nat} {v : AV} {a b c : ACode} (ht : tget ts d = v) (h : condP v (wpA Γ N (.seq a c) Q ts m) (wpA Γ N (.seq b c) Q ts m)) : wpA Γ N (.seq (.cond (.t d) a b) c) Q ts m := by
  unfold condP at h
  split at h
  · exact wp_condS ht h.1 h.2
  · exact h.elim
theorem wp_condV {d : Nat} {v : AV} {a b : ACode} (ht : tget ts d = v) (h : condP v (wpA Γ N a Q ts m) (wpA Γ N b Q ts m)) : wpA Γ N (.cond (.t d) a b) Q ts m := by
  unfold condP at h
  split at h
  · exact wp_cond' ht h.1 h.2
  · exact h.elim
theorem wp_condCS {t : Bool} {a b c : ACode} (h1 : t = true → wpA Γ N (.seq a c) Q ts m) (h2 : t = false → wpA Γ N (.seq b c) Q ts m) : wpA Γ N (.seq (.cond (.c (.bool t)) a b) c) Q ts m := ⟨h1, h2⟩
theorem wp_condC' {t : Bool} {a b : ACode} (h1 : t = true → wpA Γ N a Q ts m) (h2 : t = false → wpA Γ N b Q ts m) : wpA Γ N (.cond (.c (.bool t)) a b) Q ts m := ⟨h1, h2⟩
/-- A loop: I k is the state with at most k rounds to go. -/
theorem wp_loopS {keep : List Nat} {b c : ACode} (I : Nat → Tm → List Blk → Prop) (n : Nat) (h0 : into N keep (I n) ts m)
    (h1 : ∀ n ts m, I n ts m → wpA Γ N b (AExit.thenA (fun ts' m' => ∃ k, k < n ∧ into N keep (I k) ts' m') (AExit.thenA (wpA Γ N c Q) Q)) ts m) : wpA Γ N (.seq (.loop keep b) c) Q ts m := ⟨I, n, h0, h1⟩
theorem wp_loop' {keep : List Nat} {b : ACode} (I : Nat → Tm → List Blk → Prop) (n : Nat) (h0 : into N keep (I n) ts m)
    (h1 : ∀ n ts m, I n ts m → wpA Γ N b (AExit.thenA (fun ts' m' => ∃ k, k < n ∧ into N keep (I k) ts' m') Q) ts m) : wpA Γ N (.loop keep b) Q ts m := ⟨I, n, h0, h1⟩
theorem post_then {R : Tm → List Blk → Prop} (h : R ts m) : AExit.thenA R Q .normal ts m := h
theorem post_thenE {R : Tm → List Blk → Prop} {i : Nat} (h : Q (.exit i) ts m) : AExit.thenA R Q (.exit i) ts m := h
theorem post_thenR {R : Tm → List Blk → Prop} (h : Q .ret ts m) : AExit.thenA R Q .ret ts m := h
theorem post_blkN {i : Nat} (h : Q .normal ts m) : AExit.inBlk i Q .normal ts m := h
theorem post_blkE {i : Nat} (h : Q .normal ts m) : AExit.inBlk i Q (.exit i) ts m := by show (if i = i then _ else _); rw [if_pos rfl]; exact h
theorem post_blkF {i j : Nat} (hne : (j == i) = false) (h : Q (.exit j) ts m) : AExit.inBlk i Q (.exit j) ts m := by show (if j = i then _ else _); rw [if_neg (by simpa using hne)]; exact h
theorem post_blkR {i : Nat} (h : Q .ret ts m) : AExit.inBlk i Q .ret ts m := h
theorem post_thenP {R : Tm → List Blk → Prop} {v : AV} (h : Q (.pan v) ts m) : AExit.thenA R Q (.pan v) ts m := h
theorem post_blkP {i : Nat} {v : AV} (h : Q (.pan v) ts m) : AExit.inBlk i Q (.pan v) ts m := h
theorem post_fin {rs : List ARes} {r v : AV} {vs : List AV} {mem1 : List Blk} (h1 : resAll ts m rs = some vs) (h2 : oneOr vs = v) (h : finV N m v r mem1) : finQ N rs (.ret r) mem1 .ret ts m := ⟨vs, r, h1, h2 ▸ h, .rfl r⟩
theorem post_finS {rs : List ARes} {r v v2 : AV} {vs : List AV} {mem1 : List Blk} (h1 : resAll ts m rs = some vs) (h2 : oneOr vs = v) (hs : Same v2 r) (h : finV N m v v2 mem1) : finQ N rs (.ret r) mem1 .ret ts m := ⟨vs, v2, h1, h2 ▸ h, hs⟩
theorem post_finP {rs : List ARes} {r v : AV} {mem1 : List Blk} (fg : List Nat) (m2 : List Blk) (h : finV N m v r m2) (hm : mem1 = forgetM fg m2) : finQ N rs (.pan r) mem1 (.pan v) ts m := ⟨fg, m2, h, hm⟩
theorem post_finN {rs : List ARes} {r v : AV} {vs : List AV} {mem1 : List Blk} (h1 : resAll ts m rs = some vs) (h2 : oneOr vs = v) (h : finV N m v r mem1) : finQ N rs (.ret r) mem1 .normal ts m := ⟨vs, r, h1, h2 ▸ h, .rfl r⟩
theorem post_finNS {rs : List ARes} {r v v2 : AV} {vs : List AV} {mem1 : List Blk} (h1 : resAll ts m rs = some vs) (h2 : oneOr vs = v) (hs : Same v2 r) (h : finV N m v v2 mem1) : finQ N rs (.ret r) mem1 .normal ts m := ⟨vs, v2, h1, h2 ▸ h, hs⟩

theorem closeIds_nil (m : List Blk) : ∀ n, closeIds m n [] = []
  | 0 => rfl
  | n + 1 => by simp only [closeIds, List.flatMap_nil, addNew]; exact closeIds_nil m n

theorem fdiv_nn (a b : Int) (h : 0 ≤ b) : a.fdiv b = a / b := Int.fdiv_eq_ediv_of_nonneg a h

end
attribute [simp] sealA fdiv_nn IntKind.bits entry AV.slices AV.slicesAll AV.ids AV.idsAll AV.res AV.resAll AV.mapId AV.mapIdAll AV.frz AV.frzAll Blk.freeze freezeIds Blk.ids Blk.mapId tids tmap tkeep runS planS gateS_true gateS_false guardS_tt guardS_ff guardS_no needS_true stepS_ret stepS_pan stepS_none stepS_if stepS_map stepF_ret stepF_if stepF_map lookS_some lookS_none lookS_map lookS_if stepA AOpd.ev tget tset tput tkill cellsAt mk putAt splice AV.recell AV.shaped AV.one AV.cells_agg AV.cells_v AV.cells AV.isBareAll AV.isBare fillA binV binI binF binS binB unV eqCells intOf? elems boundOf freeA isFsl Value.oneCell'
end Go.Proofs.YtjmgnodeohmboaaDoor.Am
