/-
  THE ABSTRACT MACHINE, FOURTEENTH PART: a function's contract out of its body. No program is named here.
-/
import Derived.Test.YtajpaagbfmjacaaGreatDoorZAmC
import Derived.Recover
import Derived.Below
import Derived.ProofKit
import Derived.Carry
import Derived.ChangeArms
namespace Go.Proofs.YtajpaagbfmjacaaGreatDoor.Am
set_option linter.unusedSimpArgs false
set_option linter.unusedVariables false
open Go

inductive ARes where
  | tmp (t : Nat)
  | cell (t : Nat) (g : Bool) (n : Nat)

def compRes (P : Program) : ResultVar → Option ARes
  | .tmp t => some (.tmp t)
  | .cell t ty => (kOf P ty).map fun k => .cell t k.1 k.2

def res1 (ts : Tm) (mem : List Blk) : ARes → Option AV
  | .tmp t => some (tget ts t)
  | .cell t g n => (cellsAt mem n (tget ts t)).bind (mk g)

def resAll (ts : Tm) (mem : List Blk) : List ARes → Option (List AV)
  | [] => some []
  | r :: rs => match res1 ts mem r, resAll ts mem rs with
    | some v, some vs => some (v :: vs)
    | _, _ => none

def oneOr : List AV → AV
  | [v] => v
  | vs => .tup vs

/-- What goes to the caller: some slices are given away, some blocks go along, numbered anew. -/
def finV (N : Nat) (m : List Blk) (v v1 : AV) (mem1 : List Blk) : Prop :=
  ∃ fz ids : List Nat, subOk ids (freezeIds fz m) (v.res (freezeIds fz m)).ids = true ∧ ids.take N = List.range N ∧ v1 = (v.res (freezeIds fz m)).mapId (idx ids) ∧ mem1 = subM ids (freezeIds fz m)

/-- Blocks of which nothing is told any more. -/
def forgetM : List Nat → List Blk → List Blk
  | [], m => m
  | i :: is, m => forgetM is (m.set i .gone)

theorem MR.forgets {O F : Nat → Prop} {w : World} {B : List Loc} : ∀ (is : List Nat) {m : List Blk}, MR O F w B m → MR O F w B (forgetM is m)
  | [], _, h => h
  | i :: is, _, h => MR.forgets is (h.forget i)

mutual
/-- The same, but for how an empty slice is told. -/
inductive Same : AV → AV → Prop
  | rfl (a : AV) : Same a a
  | nil (i j : Nat) : Same (.fsl i []) (.fsl j [])
  | nilv (j : Nat) : Same (.v (.slice none 0 0)) (.fsl j [])
  | tup {as bs : List AV} (h : SameL as bs) : Same (.tup as) (.tup bs)
  | agg {as bs : List AV} (h : SameL as bs) : Same (.agg as) (.agg bs)
inductive SameL : List AV → List AV → Prop
  | nil : SameL [] []
  | cons {a b : AV} {as bs : List AV} (h : Same a b) (t : SameL as bs) : SameL (a :: as) (b :: bs)
end

mutual
theorem Same.ok {F : Nat → Prop} {w : World} {B : List Loc} : ∀ {a b : AV} {x : Value}, Same a b → VR F w B a x → VR F w B b x
  | _, _, _, .rfl _, hv => hv
  | _, _, _, .nil i j, hv => by
    cases hv with
    | fslNil base cap => exact .fslNil base cap
    | fsl b o cap h hs hF hx hcap => exact .fslNil _ cap
  | _, _, _, .nilv j, hv => by
    rw [hv.of_v]
    exact .fslNil none 0
  | _, _, _, .tup h, hv => by
    cases hv with
    | tup hc => exact .tup (SameL.ok h hc)
  | _, _, _, .agg h, hv => by
    cases hv with
    | agg hc => exact .agg (SameL.ok h hc)
theorem SameL.ok {F : Nat → Prop} {w : World} {B : List Loc} : ∀ {as bs : List AV} {xs : List Value}, SameL as bs → CR F w B as xs → CR F w B bs xs
  | _, _, _, .nil, hv => hv
  | _, _, _, .cons h t, hv => by
    cases hv with
    | cons h1 t1 => exact .cons (Same.ok h h1) (SameL.ok t t1)
end

def finQ (N : Nat) (rs : List ARes) (r : Res) (mem1 : List Blk) : Post
  | .normal, ts, m | .ret, ts, m => match r with
    | .ret v1 => ∃ vs v2, resAll ts m rs = some vs ∧ finV N m (oneOr vs) v2 mem1 ∧ Same v2 v1
    | .pan _ => False
  | .pan v, _, m => match r with
    | .pan v1 => ∃ fg m2, finV N m v v1 m2 ∧ mem1 = forgetM fg m2
    | .ret _ => False
  | .exit _, _, _ => False

/-- The arguments in their slots. -/
def entry : Nat → List AV → Tm
  | _, [] => []
  | n, a :: as => (n, a) :: entry (n + 1) as

section
variable {P : Program} {O F0 F : Nat → Prop} {w0 w w' : World} {B0 B : List Loc} {ts : Tm} {mem mem' : List Blk} {a : Act} {o : Oper}

/-- What goes to the caller. -/
theorem fin_ok {N : Nat} {v v1 : AV} {mem1 : List Blk} {x : Value} (h : finV N mem v v1 mem1) (hN : B0.length = N) (hB : ∀ (i : Nat) (l : Loc), B0[i]? = some l → B[i]? = some l) (hm : MR O F w B mem) (hv : VR F w B v x) :
    ∃ (G : Nat → Prop) (B1 : List Loc), MR O G w B1 mem1 ∧ VR G w B1 v1 x ∧ (∀ b, F b → G b) ∧ (∀ b, G b → F b ∨ O b) ∧ ∀ (i : Nat) (l : Loc), B0[i]? = some l → B1[i]? = some l := by
  obtain ⟨fz, ids, hsub, hpin, rfl, rfl⟩ := h
  obtain ⟨G, m1, hFG, hGO, _⟩ := MR.freezes fz hm
  obtain ⟨q1, q2, q3, q4⟩ := subOk_spec hsub
  refine ⟨G, subB ids B, m1.sub hsub (fun i _ b hb => (m1.own i b hb).1), ?_, hFG, hGO, fun i l hl => ?_⟩
  · exact mapId_ok _ _ (res_ok m1 v x (up hFG hv)) (fun i hi l hl => subB_idx (q3 i hi) hl)
  · have hi : i < N := by rw [← hN]; exact (List.getElem?_eq_some_iff.1 hl).1
    have hidi : ids[i]? = some i := by
      have := congrArg (·[i]?) hpin
      simp only [List.getElem?_take, hi, if_true] at this
      rw [this]; simp [hi]
    have := hB i l hl
    simp [subB, hidi, List.getD_eq_getElem?_getD, this]

def resV (tm : Array Value) : ResultVar → Sem Value
  | .tmp t => pure (tm.getD t undef)
  | .cell ad t => do loadVar t (← asAddr (tm.getD ad undef))

theorem results_eq (fn : Func) (tm : Array Value) : results fn tm = (do
    let vs ← fn.results.mapM (resV tm)
    pure (if h : vs.size = 1 then vs[0] else .tuple vs)) := by
  unfold results
  congr 1

theorem results_run {fn : Func} {rs : List ARes} {vs : List AV} (hr : fn.results.toList.mapM (compRes P) = some rs) (hv : resAll ts mem rs = some vs) (hm : MR O F w B mem) (ht : TR F w B (tget ts) a) :
    ∃ x, (results fn a.tmps).run P w = .ok x w ∧ VR F w B (oneOr vs) x := by
  have one : ∀ (rv : ResultVar) (r : ARes) (v : AV), compRes P rv = some r → res1 ts mem r = some v →
      ∃ x, (resV a.tmps rv).run P w = .ok x w ∧ VR F w B v x := by
    intro rv r v h1 h2
    cases rv with
    | tmp t =>
      simp [compRes] at h1; subst h1
      simp [res1] at h2; subst h2
      exact ⟨a.tmps.getD t undef, by simp [resV], opd_ok ht (.tmp t)⟩
    | cell ad t =>
      simp only [compRes, Option.map_eq_some_iff] at h1
      obtain ⟨k, hk, rfl⟩ := h1
      simp only [res1] at h2
      cases hc : cellsAt mem k.2 (tget ts ad) with
      | none => rw [hc] at h2; cases h2
      | some cs =>
        rw [hc] at h2
        simp only [Option.bind_some] at h2
        obtain ⟨b, of, xs, hx, hl, hcr, hcell⟩ := cellsAt_ok hc hm (opd_ok ht (.tmp ad))
        simp only [Act.eval] at hx
        obtain ⟨r1, r2⟩ := run_agg (P := P) (w := w) hk
        have hxl : xs.length = k.2 := by rw [hcr.length, hl]
        have hload := run_loadCells_list (P := P) w ⟨b, of, none⟩ xs (fun j y hj => by rw [add_plain]; exact hcell j y hj)
        rw [hxl] at hload
        rcases mk_some h2 with ⟨hg, rfl⟩ | ⟨hg, rfl⟩
        · refine ⟨.agg xs.toArray, ?_, .agg hcr⟩
          simp only [resV, hx, asAddr, loadVar, Sem.run_bind, Sem.run_pure, Result.andThen_ok, r1, hg, if_true, r2, hload]
        · obtain ⟨y, rfl, hy⟩ := hcr.of_one
          refine ⟨y, ?_, hy⟩
          have h0 := hcell 0 y rfl
          simp only [Nat.add_zero] at h0
          simp only [resV, hx, asAddr, loadVar, Sem.run_bind, Sem.run_pure, Result.andThen_ok, r1, hg, Bool.false_eq_true, if_false, run_load, h0]
  have many : ∀ (rvs : List ResultVar) (rs : List ARes) (vs : List AV), rvs.mapM (compRes P) = some rs → resAll ts mem rs = some vs →
      ∃ xs : List Value, (rvs.mapM (resV a.tmps)).run P w = .ok xs w ∧ CR F w B vs xs := by
    intro rvs
    induction rvs with
    | nil => intro rs vs h1 h2; simp at h1; subst h1; simp [resAll] at h2; subst h2; exact ⟨[], by simp, .nil⟩
    | cons rv rvs ih =>
      intro rs vs h1 h2
      simp only [List.mapM_cons] at h1
      cases q1 : compRes P rv with
      | none => simp [q1] at h1
      | some r =>
        cases q2 : rvs.mapM (compRes P) with
        | none => simp [q1, q2] at h1
        | some rs' =>
          simp [q1, q2] at h1; subst h1
          simp only [resAll] at h2
          split at h2
          · rename_i v vs' q3 q4
            cases h2
            obtain ⟨x, e1, e2⟩ := one rv r v q1 q3
            obtain ⟨xs, e3, e4⟩ := ih rs' vs' q2 q4
            refine ⟨x :: xs, ?_, .cons e2 e4⟩
            simp only [List.mapM_cons, Sem.run_bind]
            rw [e1]
            simp only [Result.andThen_ok, e3, Sem.run_pure]
          · cases h2
  obtain ⟨xs, e1, e2⟩ := many fn.results.toList rs vs hr hv
  have hmap : (fn.results.mapM (resV a.tmps)).run P w = .ok xs.toArray w := by
    have := List.mapM_toArray (l := fn.results.toList) (f := resV a.tmps)
    rw [Array.toArray_toList] at this
    rw [this]
    simp only [Sem.run_map, e1, Result.andThen_ok]
  have hres : (results fn a.tmps).run P w = .ok (if h : xs.toArray.size = 1 then xs.toArray[0] else .tuple xs.toArray) w := by
    rw [results_eq]
    simp only [Sem.run_bind, hmap, Result.andThen_ok, Sem.run_pure]
  refine ⟨_, hres, ?_⟩
  cases e2 with
  | nil => exact .tup .nil
  | cons h t =>
    cases t with
    | nil => exact h
    | cons h2 t2 => exact .tup (.cons h (.cons h2 t2))

theorem entry_ok {F : Nat → Prop} : ∀ (args : List AV) (vs : List Value) (n : Nat) (tm : Array Value), CR F w B args vs → (∀ (i : Nat) (x : Value), vs[i]? = some x → tm[n + i]? = some x) → ∀ k, VR F w B (tget (entry n args) k) (tm.getD k undef)
  | [], vs, n, tm, hc, ht, k => .any _
  | v :: args, vs, n, tm, hc, ht, k => by
    cases hc with
    | @cons _ _ x _ xs h t =>
      simp only [entry, tget]
      split
      · rename_i hk
        subst hk
        have := ht 0 x rfl
        rw [Nat.add_zero] at this
        rw [Array.getD_eq_getD_getElem?, this]
        exact h
      · exact entry_ok args xs (n + 1) tm t (fun i y hi => by have := ht (i + 1) y (by simpa using hi); rw [← this]; congr 1; omega) k

/-- A CONTRACT OUT OF A BODY. -/
theorem ok_of_body {Γ : Env} (hΓ : EnvOk P Γ) (hmix : P.follows .mixedOrders = true) {f : FuncId} {fn : Func} {c : Code} {ac : ACode} {rs : List ARes} (hf : P.funcs[f]? = some fn) (hb : fn.body = some c) (hc : compCode P c = some ac.plain) (hfine : Fine ⟨fn.ntmps, []⟩ ac)
    (hr : fn.results.toList.mapM (compRes P) = some rs) (hname : (fn.name == "runtime.NumGoroutine") = false) (sp : Spec)
    (h : ∀ args mem r mem1, sp args mem = some (r, mem1) → wpA Γ mem.length ac (finQ mem.length rs r mem1) (entry 0 args) mem) : CallOk P f sp := by
  refine .inl ⟨⟨fn, hf, by simp [hb], hname⟩, ?_⟩
  intro args mem r mem1 hsp O F B w vs hO hm ha
  have hwp := h args mem r mem1 hsp
  have habs : Abs ⟨⟨fn.ntmps, []⟩, [], fun _ => undef⟩ O F w B (entry 0 args) mem { tmps := vs.toArray ++ Array.replicate (fn.ntmps - vs.toArray.size) undef, defers := [] } w := by
    refine ⟨⟨rfl, fun _ h => by cases h⟩, by simp; omega, F, B, hm, ?_, .refl F w B, .refl O w, fun _ h => .inl h⟩
    refine entry_ok args vs 0 _ ha (fun i x hi => ?_)
    have := (List.getElem?_eq_some_iff.1 hi).1
    rw [Nat.zero_add, Array.getElem?_append_left (by simpa using this)]
    simpa using hi
  refine calls_of_wp hf hb (wp_mono (code_sound hΓ hmix hm.len hO ac c _ _ _ _ w hc hfine.1 (pairs_eq hfine.2) hwp habs) ?_)
  have fin : ∀ (v v1 : AV) (m m2 : List Blk) (x : Value) (w' : World) (F' : Nat → Prop) (B' : List Loc), finV mem.length m v v1 m2 → MR O F' w' B' m → VR F' w' B' v x → Ext F F' w w' B B' → Ev O w w' → (∀ b, F' b → F b ∨ O b) →
      ∃ (G : Nat → Prop) (B1 : List Loc), MR O G w' B1 m2 ∧ Ext F G w w' B B1 ∧ Ev O w w' ∧ (∀ b, G b → F b ∨ O b) ∧ VR G w' B1 v1 x := by
    intro v v1 m m2 x w' F' B' h1 h2 h3 h4 h5 h6
    obtain ⟨G, B1, g1, g2, g3, g4, g5⟩ := fin_ok h1 hm.len h4.pl h2 h3
    refine ⟨G, B1, g1, ⟨fun b hb => g3 b (h4.fr b hb), g5, h4.hp⟩, h5, fun b hb => ?_, g2⟩
    rcases g4 b hb with hb | hb
    · exact h6 b hb
    · exact .inr hb
  have norm : ∀ (ts : Tm) (m : List Blk) (a' : Act) (w' : World), finQ mem.length rs r mem1 .ret ts m → Abs ⟨⟨fn.ntmps, []⟩, [], fun _ => undef⟩ O F w B ts m a' w' →
      a'.defers = [] ∧ ∃ v, (results fn a'.tmps).run P w' = .ok v w' ∧ ∃ (F' : Nat → Prop) (B' : List Loc), MR O F' w' B' mem1 ∧ Ext F F' w w' B B' ∧ Ev O w w' ∧ (∀ b, F' b → F b ∨ O b) ∧ RelRes F' w' B' r (.returned v) := by
    intro ts m a' w' hq hab
    obtain ⟨⟨hd, _⟩, _, F', B', k1, k2, k3, k4, k5⟩ := hab
    cases r with
    | pan _ => exact hq.elim
    | ret v1 =>
      obtain ⟨vs', v2, h1, h2, hsame⟩ := hq
      obtain ⟨x, h3, h4⟩ := results_run (P := P) hr h1 k1 k2
      obtain ⟨G, B1, g1, g2, g3, g4, g5⟩ := fin _ _ m mem1 x w' F' B' h2 k1 h4 k3 k4 k5
      exact ⟨hd, x, h3, G, B1, g1, g2, g3, g4, hsame.ok g5⟩
  intro e a' w' he
  cases e with
  | normal => obtain ⟨ts, m, h1, h2⟩ := he; exact norm ts m a' w' h1 h2
  | ret => obtain ⟨ts, m, h1, h2⟩ := he; exact norm ts m a' w' h1 h2
  | panic ch =>
    obtain ⟨v, m, x, h1, h2, ⟨hd, _⟩, F', B', k1, k2, k3, k4, k5⟩ := he
    subst h2
    cases r with
    | ret _ => exact h1.elim
    | pan v1 =>
      obtain ⟨fg, m2, h1, rfl⟩ := h1
      obtain ⟨G, B1, g1, g2, g3, g4, g5⟩ := fin _ _ m m2 x w' F' B' h1 k1 k2 k3 k4 k5
      exact ⟨hd, G, B1, g1.forgets fg, g2, g3, g4, x, rfl, g5⟩
  | exit id => obtain ⟨ts, m, h1, h2⟩ := he; exact h1.elim
  | goto l => exact he.elim
  | outgrown => exact he.elim

end
end Go.Proofs.YtajpaagbfmjacaaGreatDoor.Am
/-
  THE ABSTRACT MACHINE, FIFTEENTH PART: how bodies are evaluated: a region by the simplifier, as data; the rest by rules. No program is named here.
-/
namespace Go.Proofs.YtajpaagbfmjacaaGreatDoor.Am
set_option linter.unusedSimpArgs false
set_option linter.unusedVariables false
open Go

/-- What the simplifier shall not look into. -/
inductive Tag.{u} {α : Sort u} (a : α) : Type where
  | mk

/-- How a region ends. -/
inductive Seg where
  | bad
  | fin (ts : Tm) (m : List Blk)
  | pan (v : AV) (m : List Blk)
  | both (a b : Seg)

section
variable {α β : Type} {Γ : Env} {N : Nat} {Q : Post} {ts ts' : Tm} {m m' : List Blk}

open Classical in
noncomputable def needS (c : Prop) (s : Seg) : Seg := @ite Seg c (propDecidable c) s .bad
def gateS (t : Bool) (y n : Seg) (_ : Tag y) (_ : Tag n) : Seg := match t with
  | true => y
  | false => n
def lookS (K : α → Seg) (_ : Tag K) (o : Option α) : Seg := match o with
  | some x => K x
  | none => .bad
def stepS (K : AV → List Blk → Seg) (_ : Tag K) (o : Option (Res × List Blk)) : Seg := match o with
  | some (.ret v, m) => K v m
  | some (.pan v, m) => .pan v m
  | none => .bad
def stepF (K : AV → List Blk → Seg) (_ : Tag K) (o : Option (Res × List Blk)) : Seg := match o with
  | some (.ret v, m) => K v m
  | some (.pan _, _) => .bad
  | none => .bad
def guardS (b : Bool) (d : Nat) (yes no : Tm → Seg) (_ : Tag yes) (_ : Tag no) (a : AV) (ts : Tm) : Seg :=
  match a with
  | .v (.bool t) => gateS (t == b) (yes (tset d (.v (.bool b)) ts)) (no (tset d (.v (.bool !b)) ts)) .mk .mk
  | .v (.tuple ⟨[]⟩) => no ts
  | _ => .bad

/-- A region's operations, as data. -/
noncomputable def runS (Γ : Env) : List AOper → Tm → List Blk → Seg
  | [], ts, m => .fin ts m
  | ⟨d, op, none, ks⟩ :: r, ts, m => stepS (fun v m' => runS Γ r (tput (tkill ks ts) d v) m') .mk (stepA Γ (tget ts) m op)
  | ⟨d, op, some (k, b), ks⟩ :: r, ts, m => guardS b k (fun ts => stepS (fun v m' => runS Γ r (tput (tkill ks ts) d v) m') .mk (stepA Γ (tget ts) m op)) (fun ts => runS Γ r (tput (tkill ks ts) d skipV) m) .mk .mk (tget ts k) ts

/-- A region in one of its orders, as data. -/
noncomputable def planS (Γ : Env) : Plan → Tm → List Blk → Seg
  | .done, ts, m => .fin ts m
  | .stop, _, _ => .bad
  | .tak _ ⟨d, op, none, _⟩ nx, ts, m => needS (freeA (tget ts) op = true) (stepF (fun v _ => planS Γ nx (tput ts d v) m) .mk (stepA Γ (tget ts) m op))
  | .tak _ ⟨d, op, some (k, b), _⟩ nx, ts, m => guardS b k (fun ts => needS (freeA (tget ts) op = true) (stepF (fun v _ => planS Γ nx (tput ts d v) m) .mk (stepA Γ (tget ts) m op))) (fun ts => planS Γ nx (tput ts d skipV) m) .mk .mk (tget ts k) ts
  | .alt _ ⟨d, op, none, _⟩ nx .stop, ts, m => stepS (fun v m' => planS Γ nx (tput ts d v) m') .mk (stepA Γ (tget ts) m op)
  | .alt _ ⟨d, op, some (k, b), _⟩ nx .stop, ts, m => guardS b k (fun ts => stepS (fun v m' => planS Γ nx (tput ts d v) m') .mk (stepA Γ (tget ts) m op)) (fun ts => planS Γ nx (tput ts d skipV) m) .mk .mk (tget ts k) ts
  | .alt _ ⟨d, op, none, _⟩ nx ot, ts, m => .both (stepS (fun v m' => planS Γ nx (tput ts d v) m') .mk (stepA Γ (tget ts) m op)) (planS Γ ot ts m)
  | .alt _ ⟨d, op, some (k, b), _⟩ nx ot, ts, m => .both (guardS b k (fun ts => stepS (fun v m' => planS Γ nx (tput ts d v) m') .mk (stepA Γ (tget ts) m op)) (fun ts => planS Γ nx (tput ts d skipV) m) .mk .mk (tget ts k) ts) (planS Γ ot ts m)

/-! ### Rules for the simplifier -/
theorem gateS_true (y n : Seg) (g : Tag y) (h : Tag n) : gateS true y n g h = y := rfl
theorem gateS_false (y n : Seg) (g : Tag y) (h : Tag n) : gateS false y n g h = n := rfl
theorem guardS_tt (t : Bool) (d : Nat) (yes no : Tm → Seg) (g : Tag yes) (h : Tag no) : guardS true d yes no g h (.v (.bool t)) ts = gateS t (yes (tset d (.v (.bool true)) ts)) (no (tset d (.v (.bool false)) ts)) .mk .mk := by cases t <;> rfl
theorem guardS_ff (t : Bool) (d : Nat) (yes no : Tm → Seg) (g : Tag yes) (h : Tag no) : guardS false d yes no g h (.v (.bool t)) ts = gateS t (no (tset d (.v (.bool true)) ts)) (yes (tset d (.v (.bool false)) ts)) .mk .mk := by cases t <;> rfl
theorem guardS_no (b : Bool) (d : Nat) (yes no : Tm → Seg) (g : Tag yes) (h : Tag no) : guardS b d yes no g h (.v (.tuple #[])) ts = no ts := rfl
theorem needS_true (s : Seg) : needS True s = s := if_pos trivial
theorem stepS_ret (v : AV) (m : List Blk) (K : AV → List Blk → Seg) (g : Tag K) : stepS K g (some (.ret v, m)) = K v m := rfl
theorem stepS_pan (v : AV) (m : List Blk) (K : AV → List Blk → Seg) (g : Tag K) : stepS K g (some (.pan v, m)) = .pan v m := rfl
theorem stepS_none (K : AV → List Blk → Seg) (g : Tag K) : stepS K g none = .bad := rfl
theorem stepS_if (c : Prop) [Decidable c] (x : Option (Res × List Blk)) (K : AV → List Blk → Seg) (g : Tag K) : stepS K g (if c then x else none) = needS c (stepS K .mk x) := by unfold needS; by_cases h : c <;> simp only [h, if_true, if_false] <;> rfl
theorem stepS_map (f : β → Res × List Blk) (o : Option β) (K : AV → List Blk → Seg) (g : Tag K) : stepS K g (o.map f) = lookS (fun x => stepS K .mk (some (f x))) .mk o := by cases o <;> rfl
theorem stepF_ret (v : AV) (m : List Blk) (K : AV → List Blk → Seg) (g : Tag K) : stepF K g (some (.ret v, m)) = K v m := rfl
theorem stepF_if (c : Prop) [Decidable c] (x : Option (Res × List Blk)) (K : AV → List Blk → Seg) (g : Tag K) : stepF K g (if c then x else none) = needS c (stepF K .mk x) := by unfold needS; by_cases h : c <;> simp only [h, if_true, if_false] <;> rfl
theorem stepF_map (f : β → Res × List Blk) (o : Option β) (K : AV → List Blk → Seg) (g : Tag K) : stepF K g (o.map f) = lookS (fun x => stepF K .mk (some (f x))) .mk o := by cases o <;> rfl
theorem lookS_some (x : α) (K : α → Seg) (g : Tag K) : lookS K g (some x) = K x := rfl
theorem lookS_none (K : α → Seg) (g : Tag K) : lookS K g none = .bad := rfl
theorem lookS_map (f : β → α) (o : Option β) (K : α → Seg) (g : Tag K) : lookS K g (o.map f) = lookS (fun x => K (f x)) .mk o := by cases o <;> rfl
theorem lookS_if (c : Prop) [Decidable c] (x : Option α) (K : α → Seg) (g : Tag K) : lookS K g (if c then x else none) = needS c (lookS K .mk x) := by unfold needS; by_cases h : c <;> simp only [h, if_true, if_false] <;> rfl

/-! ### What is to be shown of a region's end -/
def segP (R : Tm → List Blk → Prop) (S : AV → List Blk → Prop) : Seg → Prop
  | .bad => False
  | .fin ts m => R ts m
  | .pan v m => S v m
  | .both a b => segP R S a ∧ segP R S b

variable {R : Tm → List Blk → Prop} {S : AV → List Blk → Prop}

theorem seg_eval {s s' : Seg} (h : s = s') (k : segP R S s') : segP R S s := by rw [h]; exact k
theorem seg_fin (h : R ts m) : segP R S (.fin ts m) := h
theorem seg_pan {v : AV} (h : S v m) : segP R S (.pan v m) := h
theorem seg_both {a b : Seg} (h : segP R S a) (k : segP R S b) : segP R S (.both a b) := ⟨h, k⟩
theorem seg_need {c : Prop} {s : Seg} (h : c) (k : segP R S s) : segP R S (needS c s) := by unfold needS; rw [if_pos h]; exact k
theorem seg_gate {t : Bool} {y n : Seg} {g : Tag y} {h : Tag n} (h1 : t = true → segP R S y) (h2 : t = false → segP R S n) : segP R S (gateS t y n g h) := by
  cases t
  · exact h2 rfl
  · exact h1 rfl
theorem seg_look {K : α → Seg} {g : Tag K} {o : Option α} (x : α) (h : o = some x) (k : segP R S (K x)) : segP R S (lookS K g o) := by subst h; exact k

theorem optK_step {K : AV → List Blk → Seg} {L : Res × List Blk → Prop} {o : Option (Res × List Blk)} (h1 : ∀ v m, segP R S (K v m) → L (.ret v, m)) (h2 : ∀ v m, S v m → L (.pan v, m)) (h : segP R S (stepS K .mk o)) : optK o L := by
  unfold stepS at h
  split at h
  · exact h1 _ _ h
  · exact h2 _ _ h
  · exact h.elim

theorem guard_ok {d : Nat} {b : Bool} {yes no : Tm → Seg} {Y Z : Tm → Prop} (h1 : ∀ ts, segP R S (yes ts) → Y ts) (h2 : ∀ ts, segP R S (no ts) → Z ts) (h : segP R S (guardS b d yes no .mk .mk (tget ts d) ts)) : skipK ts d Z (guardK ts d b Y Z) := by
  unfold guardS at h
  unfold skipK guardK
  split at h
  · rename_i t ht
    rw [ht]
    cases t <;> cases b <;> simp [gateS] at h ⊢ <;> first | exact h1 _ h | exact h2 _ h
  · rename_i ht
    rw [ht]
    exact h2 _ h
  · exact h.elim

theorem runS_ok : ∀ (l : List AOper) (ts : Tm) (m : List Blk), segP (Q .normal) (fun v m => Q (.pan v) [] m) (runS Γ l ts m) → runW Γ l ts m Q
  | [], ts, m, h => h
  | ⟨d, op, none, ks⟩ :: r, ts, m, h => by
    rw [runS] at h
    simp only [runW, gateK, stepK]
    exact optK_step (fun v m' hh => runS_ok r _ m' hh) (fun v m' hh => hh) h
  | ⟨d, op, some (k, b), ks⟩ :: r, ts, m, h => by
    rw [runS] at h
    simp only [runW, gateK, stepK]
    exact guard_ok (fun ts hh => optK_step (fun v m' hh => runS_ok r _ m' hh) (fun v m' hh => hh) hh) (fun ts hh => runS_ok r _ m hh) h

theorem optK_stepF {K : AV → List Blk → Seg} {L : Res × List Blk → Prop} {o : Option (Res × List Blk)} (h1 : ∀ v m, segP R S (K v m) → L (.ret v, m)) (h : segP R S (stepF K .mk o)) : optK o L := by
  unfold stepF at h
  split at h
  · exact h1 _ _ h
  · exact h.elim
  · exact h.elim

theorem need_ok {c : Prop} {s : Seg} (h : segP R S (needS c s)) : c ∧ segP R S s := by
  unfold needS at h
  split at h
  · exact ⟨‹_›, h⟩
  · exact h.elim

theorem planS_ok : ∀ (p : Plan) (ts : Tm) (m : List Blk), segP (Q .normal) (fun v m => Q (.pan v) [] m) (planS Γ p ts m) → planW Γ p ts m Q
  | .done, ts, m, h => by rw [planS] at h; rw [planW]; exact h
  | .stop, ts, m, h => by rw [planW]; trivial
  | .tak i ⟨d, op, none, ks⟩ nx, ts, m, h => by
    rw [planS] at h
    rw [planW]
    obtain ⟨h1, h2⟩ := need_ok h
    exact ⟨h1, optK_stepF (fun v m' hh => planS_ok nx _ m hh) h2⟩
  | .tak i ⟨d, op, some (k, b), ks⟩ nx, ts, m, h => by
    rw [planS] at h
    rw [planW]
    simp only [gateK]
    refine guard_ok (fun ts hh => ?_) (fun ts hh => planS_ok nx _ m hh) h
    obtain ⟨h1, h2⟩ := need_ok hh
    exact ⟨h1, optK_stepF (fun v m' hh => planS_ok nx _ m hh) h2⟩
  | .alt i ⟨d, op, none, ks⟩ nx ot, ts, m, h => by
    rw [planW]
    cases ot <;> rw [planS] at h
    case stop => exact ⟨optK_step (fun v m' hh => planS_ok nx _ m' hh) (fun v m' hh => hh) h, by rw [planW]; trivial⟩
    all_goals first | exact ⟨optK_step (fun v m' hh => planS_ok nx _ m' hh) (fun v m' hh => hh) h.1, planS_ok _ ts m h.2⟩ | (intro hc; cases hc)
  | .alt i ⟨d, op, some (k, b), ks⟩ nx ot, ts, m, h => by
    rw [planW]
    cases ot <;> rw [planS] at h
    case stop => exact ⟨guard_ok (fun ts hh => optK_step (fun v m' hh => planS_ok nx _ m' hh) (fun v m' hh => hh) hh) (fun ts hh => planS_ok nx _ m hh) h, by rw [planW]; trivial⟩
    all_goals first | exact ⟨guard_ok (fun ts hh => optK_step (fun v m' hh => planS_ok nx _ m' hh) (fun v m' hh => hh) hh) (fun ts hh => planS_ok nx _ m hh) h.1, planS_ok _ ts m h.2⟩ | (intro hc; cases hc)

/-! ### Rules for the control flow: the state is known, code goes from statement to statement -/
theorem wp_eqT {c : ACode} (h : ts = ts') (k : wpA Γ N c Q ts' m) : wpA Γ N c Q ts m := by rw [h]; exact k
theorem wp_region {p : List (List Nat)} {ops : List AOper} (h : segP (Q .normal) (fun v m => Q (.pan v) [] m) (runS Γ ops ts m)) : wpA Γ N (.region false p ops) Q ts m := runS_ok ops ts m h
theorem wp_draws {p : Plan} {pre : List (List Nat)} {ops : List AOper} (h : segP (Q .normal) (fun v m => Q (.pan v) [] m) (planS Γ p ts m)) : wpA Γ N (.draws p pre ops) Q ts m := planS_ok p ts m h
theorem wp_regionS {p : List (List Nat)} {ops : List AOper} {b : ACode} (h : segP (wpA Γ N b Q) (fun v m => Q (.pan v) [] m) (runS Γ ops ts m)) : wpA Γ N (.seq (.region false p ops) b) Q ts m := runS_ok (Q := AExit.thenA (wpA Γ N b Q) Q) ops ts m h
theorem wp_drawsS {p : Plan} {pre : List (List Nat)} {ops : List AOper} {b : ACode} (h : segP (wpA Γ N b Q) (fun v m => Q (.pan v) [] m) (planS Γ p ts m)) : wpA Γ N (.seq (.draws p pre ops) b) Q ts m := planS_ok (Q := AExit.thenA (wpA Γ N b Q) Q) p ts m h
theorem thenA_thenA {R1 R2 : Tm → List Blk → Prop} : AExit.thenA R1 (AExit.thenA R2 Q) = AExit.thenA (fun ts m => R1 ts m) (AExit.thenA R2 Q) := rfl
theorem wp_assoc {a b c : ACode} (h : wpA Γ N (.seq a (.seq b c)) Q ts m) : wpA Γ N (.seq (.seq a b) c) Q ts m := by
  have e : AExit.thenA (wpA Γ N (.seq b c) Q) Q = AExit.thenA (wpA Γ N b (AExit.thenA (wpA Γ N c Q) Q)) (AExit.thenA (wpA Γ N c Q) Q) := by
    funext e ts m; cases e <;> rfl
  simp only [wpA] at h ⊢
  rw [← e]; exact h
theorem wp_skipS {b : ACode} (h : wpA Γ N b Q ts m) : wpA Γ N (.seq .skip b) Q ts m := h
theorem wp_retS {b : ACode} (h : Q .ret ts m) : wpA Γ N (.seq .ret b) Q ts m := h
theorem wp_exitS {i : Nat} {b : ACode} (h : Q (.exit i) ts m) : wpA Γ N (.seq (.exit i) b) Q ts m := h
theorem wp_dropS {ks : List Nat} {a b : ACode} (h : wpA Γ N (.seq a b) Q (tkill ks ts) m) : wpA Γ N (.seq (.drop ks a) b) Q ts m := h
theorem wp_sealS {d : Nat} {a b : ACode} {p : Tm × List Blk} (h : sealA d ts m = some p) (k : wpA Γ N (.seq a b) Q p.1 p.2) : wpA Γ N (.seq (.seal_ d a) b) Q ts m := by
  simp only [wpA] at k ⊢; rw [h]; exact k
theorem wp_close {d : Nat} {b : ACode} {p : Tm × List Blk} (h : closeA d ts m = some p) (k : wpA Γ N b Q p.1 p.2) : wpA Γ N (.close_ d b) Q ts m := by
  simp only [wpA]; rw [h]; exact k
theorem wp_closeS {d : Nat} {a b : ACode} {p : Tm × List Blk} (h : closeA d ts m = some p) (k : wpA Γ N (.seq a b) Q p.1 p.2) : wpA Γ N (.seq (.close_ d a) b) Q ts m := by
  simp only [wpA] at k ⊢; rw [h]; exact k
theorem wp_open {d : Nat} {b : ACode} (h : openA d ts m fun ts m => wpA Γ N b Q ts m) : wpA Γ N (.open_ d b) Q ts m := h
theorem wp_openS {d : Nat} {a b : ACode} (h : openA d ts m fun ts m => wpA Γ N (.seq a b) Q ts m) : wpA Γ N (.seq (.open_ d a) b) Q ts m := h
theorem wp_conc {d : Nat} {b : ACode} (h : concA d ts fun ts => wpA Γ N b Q ts m) : wpA Γ N (.conc d b) Q ts m := h
theorem wp_concS {d : Nat} {a b : ACode} (h : concA d ts fun ts => wpA Γ N (.seq a b) Q ts m) : wpA Γ N (.seq (.conc d a) b) Q ts m := h
theorem wp_pack {ks : List Nat} {b : ACode} (h : into N ks (wpA Γ N b Q) ts m) : wpA Γ N (.pack ks b) Q ts m := h
theorem wp_packS {ks : List Nat} {a b : ACode} (h : into N ks (wpA Γ N (.seq a b) Q) ts m) : wpA Γ N (.seq (.pack ks a) b) Q ts m := h
theorem wp_seal {d : Nat} {b : ACode} {p : Tm × List Blk} (h : sealA d ts m = some p) (k : wpA Γ N b Q p.1 p.2) : wpA Γ N (.seal_ d b) Q ts m := by
  simp only [wpA]; rw [h]; exact k
theorem wp_blockS {i : Nat} {a b : ACode} (h : wpA Γ N a (AExit.inBlk i (AExit.thenA (wpA Γ N b Q) Q)) ts m) : wpA Γ N (.seq (.block i a) b) Q ts m := h
theorem wp_skip' (h : Q .normal ts m) : wpA Γ N .skip Q ts m := h
theorem wp_ret' (h : Q .ret ts m) : wpA Γ N .ret Q ts m := h
theorem wp_exit' {i : Nat} (h : Q (.exit i) ts m) : wpA Γ N (.exit i) Q ts m := h
theorem wp_drop {ks : List Nat} {a : ACode} (h : wpA Γ N a Q (tkill ks ts) m) : wpA Γ N (.drop ks a) Q ts m := h
theorem wp_block' {i : Nat} {a : ACode} (h : wpA Γ N a (AExit.inBlk i Q) ts m) : wpA Γ N (.block i a) Q ts m := h
theorem guardK_of {d : Nat} {t : Bool} {yes no : Tm → Prop} (ht : tget ts d = .v (.bool t)) (h1 : t = true → yes ts) (h2 : t = false → no ts) : guardK ts d true yes no := by
  have hs : ∀ u, t = u → tset d (.v (.bool u)) ts = ts := fun u hu => by subst hu; rw [← ht, tset_same]
  unfold guardK
  rw [ht]
  refine ⟨fun e => ?_, fun e => ?_⟩
  · rw [hs true e]; exact h1 e
  · rw [show (!true) = false from rfl, hs false e]; exact h2 e
theorem wp_condS {d : Nat} {t : Bool} {a b c : ACode} (ht : tget ts d = .v (.bool t)) (h1 : t = true → wpA Γ N (.seq a c) Q ts m) (h2 : t = false → wpA Γ N (.seq b c) Q ts m) : wpA Γ N (.seq (.cond (.t d) a b) c) Q ts m :=
  guardK_of (yes := fun ts => wpA Γ N a (AExit.thenA (wpA Γ N c Q) Q) ts m) (no := fun ts => wpA Γ N b (AExit.thenA (wpA Γ N c Q) Q) ts m) ht h1 h2
theorem wp_cond' {d : Nat} {t : Bool} {a b : ACode} (ht : tget ts d = .v (.bool t)) (h1 : t = true → wpA Γ N a Q ts m) (h2 : t = false → wpA Γ N b Q ts m) : wpA Γ N (.cond (.t d) a b) Q ts m :=
  guardK_of (yes := fun ts => wpA Γ N a Q ts m) (no := fun ts => wpA Γ N b Q ts m) ht h1 h2
/-- Two ways, by a truth value. -/
def condP (v : AV) (A B : Prop) : Prop := match v with
  | .v (.bool t) => (t = true → A) ∧ (t = false → B)
  | _ => False
theorem cond_v {t : Bool} {A B : Prop} (h1 : t = true → A) (h2 : t = false → B) : condP (.v (.bool t)) A B := ⟨h1, h2⟩
theorem cond_t {A B : Prop} (h1 : A) : condP (.v (.bool true)) A B := ⟨fun _ => h1, fun h => (by cases h)⟩
theorem cond_f {A B : Prop} (h1 : B) : condP (.v (.bool false)) A B := ⟨fun h => (by cases h), fun _ => h1⟩
theorem wp_condVS {d : Nat} {v : AV} {a b c : ACode} (ht : tget ts d = v) (h : condP v (wpA Γ N (.seq a c) Q ts m) (wpA Γ N (.seq b c) Q ts m)) : wpA Γ N (.seq (.cond (.t d) a b) c) Q ts m := by
  unfold condP at h
  split at h
  · exact wp_condS ht h.1 h.2
  · exact h.elim
theorem wp_condV {d : Nat} {v : AV} {a b : ACode} (ht : tget ts d = v) (h : condP v (wpA Γ N a Q ts m) (wpA Γ N b Q ts m)) : wpA Γ N (.cond (.t d) a b) Q ts m := by
  unfold condP at h
  split at h
  · exact wp_cond' ht h.1 h.2
  · exact h.elim
theorem wp_condCS {t : Bool} {a b c : ACode} (h1 : t = true → wpA Γ N (.seq a c) Q ts m) (h2 : t = false → wpA Γ N (.seq b c) Q ts m) : wpA Γ N (.seq (.cond (.c (.bool t)) a b) c) Q ts m := ⟨h1, h2⟩
theorem wp_condC' {t : Bool} {a b : ACode} (h1 : t = true → wpA Γ N a Q ts m) (h2 : t = false → wpA Γ N b Q ts m) : wpA Γ N (.cond (.c (.bool t)) a b) Q ts m := ⟨h1, h2⟩
/-- A loop: I k is the state with at most k rounds to go. -/
theorem wp_loopS {keep : List Nat} {b c : ACode} (I : Nat → Tm → List Blk → Prop) (n : Nat) (h0 : into N keep (I n) ts m)
    (h1 : ∀ n ts m, I n ts m → wpA Γ N b (AExit.thenA (fun ts' m' => ∃ k, k < n ∧ into N keep (I k) ts' m') (AExit.thenA (wpA Γ N c Q) Q)) ts m) : wpA Γ N (.seq (.loop keep b) c) Q ts m := ⟨I, n, h0, h1⟩
theorem wp_loop' {keep : List Nat} {b : ACode} (I : Nat → Tm → List Blk → Prop) (n : Nat) (h0 : into N keep (I n) ts m)
    (h1 : ∀ n ts m, I n ts m → wpA Γ N b (AExit.thenA (fun ts' m' => ∃ k, k < n ∧ into N keep (I k) ts' m') Q) ts m) : wpA Γ N (.loop keep b) Q ts m := ⟨I, n, h0, h1⟩
theorem post_then {R : Tm → List Blk → Prop} (h : R ts m) : AExit.thenA R Q .normal ts m := h
theorem post_thenE {R : Tm → List Blk → Prop} {i : Nat} (h : Q (.exit i) ts m) : AExit.thenA R Q (.exit i) ts m := h
theorem post_thenR {R : Tm → List Blk → Prop} (h : Q .ret ts m) : AExit.thenA R Q .ret ts m := h
theorem post_blkN {i : Nat} (h : Q .normal ts m) : AExit.inBlk i Q .normal ts m := h
theorem post_blkE {i : Nat} (h : Q .normal ts m) : AExit.inBlk i Q (.exit i) ts m := by show (if i = i then _ else _); rw [if_pos rfl]; exact h
theorem post_blkF {i j : Nat} (hne : (j == i) = false) (h : Q (.exit j) ts m) : AExit.inBlk i Q (.exit j) ts m := by show (if j = i then _ else _); rw [if_neg (by simpa using hne)]; exact h
theorem post_blkR {i : Nat} (h : Q .ret ts m) : AExit.inBlk i Q .ret ts m := h
theorem post_thenP {R : Tm → List Blk → Prop} {v : AV} (h : Q (.pan v) ts m) : AExit.thenA R Q (.pan v) ts m := h
theorem post_blkP {i : Nat} {v : AV} (h : Q (.pan v) ts m) : AExit.inBlk i Q (.pan v) ts m := h
theorem post_fin {rs : List ARes} {r v : AV} {vs : List AV} {mem1 : List Blk} (h1 : resAll ts m rs = some vs) (h2 : oneOr vs = v) (h : finV N m v r mem1) : finQ N rs (.ret r) mem1 .ret ts m := ⟨vs, r, h1, h2 ▸ h, .rfl r⟩
theorem post_finS {rs : List ARes} {r v v2 : AV} {vs : List AV} {mem1 : List Blk} (h1 : resAll ts m rs = some vs) (h2 : oneOr vs = v) (hs : Same v2 r) (h : finV N m v v2 mem1) : finQ N rs (.ret r) mem1 .ret ts m := ⟨vs, v2, h1, h2 ▸ h, hs⟩
theorem post_finP {rs : List ARes} {r v : AV} {mem1 : List Blk} (fg : List Nat) (m2 : List Blk) (h : finV N m v r m2) (hm : mem1 = forgetM fg m2) : finQ N rs (.pan r) mem1 (.pan v) ts m := ⟨fg, m2, h, hm⟩
theorem post_finN {rs : List ARes} {r v : AV} {vs : List AV} {mem1 : List Blk} (h1 : resAll ts m rs = some vs) (h2 : oneOr vs = v) (h : finV N m v r mem1) : finQ N rs (.ret r) mem1 .normal ts m := ⟨vs, r, h1, h2 ▸ h, .rfl r⟩
theorem post_finNS {rs : List ARes} {r v v2 : AV} {vs : List AV} {mem1 : List Blk} (h1 : resAll ts m rs = some vs) (h2 : oneOr vs = v) (hs : Same v2 r) (h : finV N m v v2 mem1) : finQ N rs (.ret r) mem1 .normal ts m := ⟨vs, v2, h1, h2 ▸ h, hs⟩

theorem closeIds_nil (m : List Blk) : ∀ n, closeIds m n [] = []
  | 0 => rfl
  | n + 1 => by simp only [closeIds, List.flatMap_nil, addNew]; exact closeIds_nil m n

theorem fdiv_nn (a b : Int) (h : 0 ≤ b) : a.fdiv b = a / b := Int.fdiv_eq_ediv_of_nonneg a h

end
attribute [simp] sealA fdiv_nn IntKind.bits entry AV.slices AV.slicesAll AV.ids AV.idsAll AV.res AV.resAll AV.mapId AV.mapIdAll AV.frz AV.frzAll Blk.freeze freezeIds Blk.ids Blk.mapId tids tmap tkeep runS planS gateS_true gateS_false guardS_tt guardS_ff guardS_no needS_true stepS_ret stepS_pan stepS_none stepS_if stepS_map stepF_ret stepF_if stepF_map lookS_some lookS_none lookS_map lookS_if stepA AOpd.ev tget tset tput tkill cellsAt mk putAt splice AV.recell AV.shaped AV.one AV.cells_agg AV.cells_v AV.cells AV.isBareAll AV.isBare fillA binV binI binF binS binB unV eqCells intOf? elems boundOf freeA isFsl Value.oneCell'
end Go.Proofs.YtajpaagbfmjacaaGreatDoor.Am
/-
  THE ABSTRACT MACHINE, SIXTEENTH PART: a body that defers a closure which recovers: its two named results are cells. No program is named here.
-/
namespace Go.Proofs.YtajpaagbfmjacaaGreatDoor.Am
set_option linter.unusedSimpArgs false
set_option linter.unusedVariables false
open Go

/-- The parts of a body that defers. -/
def dfr0 : Code → Code
  | .seq a _ => a
  | c => c
def dfr2 : Code → Code
  | .seq _ (.seq _ c) => c
  | c => c

def cellP (b : Nat) : Value := .pointer (some ⟨b, 0, none⟩)

/-- What a deferred closure does that has two cells: nothing behind a return; behind a panic it recovers and lays values. -/
def Catches (P : Program) (g : FuncId) (eff : AV → Option (Value × Value)) : Prop :=
  (∀ (b1 b2 : Nat) (w : World), CallsD P g #[cellP b1, cellP b2] .returning w fun e u' w' => (∃ r, e = .returned r) ∧ u' = .returning ∧ Go.RowKit.Below w.heap.size w w') ∧
  (∀ (b1 b2 : Nat) (w : World) (F : Nat → Prop) (B : List Loc) (v : AV) (x y1 y2 z1 z2 : Value) (t1 t2 : TypeId), VR F w B v x → eff v = some (y1, y2) → b1 ≠ b2 → w.heap[b1]? = some (.cells #[z1] t1 (0, 0)) → w.heap[b2]? = some (.cells #[z2] t2 (0, 0)) →
    CallsD P g #[cellP b1, cellP b2] (.panicking [{ v := x, recovered := false }]) w fun e u' w' =>
      (∃ r, e = .returned r) ∧ u' = .panicking [{ v := x, recovered := true }] ∧ w' = (w.setCell ⟨b1, 0, none⟩ y1).setCell ⟨b2, 0, none⟩ y2)

/-- How such a body may end. -/
def dfrQ (N : Nat) (rs : List ARes) (r : Res) (mem1 : List Blk) (c1 c2 i1 i2 : Nat) (eff : AV → Option (Value × Value)) : Post
  | .normal, ts, m | .ret, ts, m => finQ N rs r mem1 .ret ts m
  | .pan v, _, m => ∃ y1 y2 z1 z2, eff v = some (y1, y2) ∧ m[i1]? = some (.var [z1]) ∧ m[i2]? = some (.var [z2]) ∧
      finQ N rs r mem1 .ret [(c1, .ptr i1 0 0), (c2, .ptr i2 0 0)] ((m.set i1 (.var [.v y1])).set i2 (.var [.v y2]))
  | .exit _, _, _ => False

/-- The state, just so. -/
def atQ (ts0 : Tm) (m0 : List Blk) : Post
  | .normal, ts, m => ts = ts0 ∧ m = m0
  | _, _, _ => False

section
variable {P : Program} {O F0 F : Nat → Prop} {w0 w w' : World} {B0 B : List Loc} {ts : Tm} {mem mem' : List Blk} {a : Act} {o : Oper}

theorem setCell_heap (w : World) (b : Nat) (z y : Value) (t : TypeId) (h : w.heap[b]? = some (.cells #[z] t (0, 0))) : (w.setCell ⟨b, 0, none⟩ y).heap[b]? = some (.cells #[y] t (0, 0)) := by
  simp [World.setCell, Array.getElem?_modify, h]

theorem setCell_other (w : World) (b c : Nat) (y : Value) (h : c ≠ b) : (w.setCell ⟨b, 0, none⟩ y).heap[c]? = w.heap[c]? := by
  simp [World.setCell, Array.getElem?_modify, Ne.symm h]

theorem MR.setVar (hm : MR O F w B mem) {i b : Nat} {z : AV} (hi : mem[i]? = some (.var [z])) (hl : B[i]? = some (.var b)) (y : Value) :
    MR O F (w.setCell ⟨b, 0, none⟩ y) B (mem.set i (.var [.v y])) ∧ Ext F F w (w.setCell ⟨b, 0, none⟩ y) B B ∧ Ev O w (w.setCell ⟨b, 0, none⟩ y) := by
  obtain ⟨t, xs, h1, h2⟩ := hm.br i _ _ hi hl
  obtain ⟨x, rfl, _⟩ := h2.of_one
  obtain ⟨m1, e1⟩ := hm.write (w' := w.setCell ⟨b, 0, none⟩ y) (k := .var [.v y]) hi hl rfl rfl (by simp [World.setCell]) (fun c hc => setCell_other w b c y hc)
    (fun _ => ⟨t, [y], setCell_heap w b x y t h1, .one (.v y)⟩)
  exact ⟨m1, e1, ⟨rfl, rfl, rfl, by simp [World.setCell], fun c _ ho => setCell_other w b c y (fun hcb => ho (hcb ▸ (hm.own i b (ownB_mk hi hl rfl rfl)).1))⟩⟩

theorem dfr_region {Q : Exit → Act → World → Prop} {id g d c1 c2 : Nat} {o1 o2 : Oper} {ats : Array TypeId}
    (h1 : o1.op = .makeFunc (.func g) #[] #[.tmp c1, .tmp c2]) (hd1 : o1.dst = some d) (hg1 : o1.guard = none)
    (h2 : o2.op = .defer { callee := .value (.tmp d), args := #[], argTypes := ats }) (hd2 : o2.dst = none) (hg2 : o2.guard = none) (hd : d < a.tmps.size) {p1 p2 : Value} (hp1 : a.tmps[c1]? = some p1) (hp2 : a.tmps[c2]? = some p2)
    (hK : Q .normal { a.put (some d) (.func (.func g) #[] #[p1, p2]) with defers := { target := .fn (.func g) #[p1, p2], args := #[] } :: a.defers } w) :
    (Code.region id #[o1, o2] false).wp P Q a w := by
  refine wp_region_list ?_
  obtain ⟨dst1, op1, ty1, pos1, af1, gd1⟩ := o1
  obtain ⟨dst2, op2, ty2, pos2, af2, gd2⟩ := o2
  simp only at h1 hd1 hg1 h2 hd2 hg2
  subst h1; subst hd1; subst hg1; subst h2; subst hd2; subst hg2
  have hv : (resolve ({ tmps := a.tmps.setIfInBounds d (Value.func (.func g) #[] #[p1, p2]), defers := a.defers } : Act).eval { callee := .value (.tmp d), args := #[], argTypes := ats } ty2).run P w = .ok { target := .fn (.func g) #[p1, p2], args := #[] } w := by
    simp [resolve, Deferred.ofValue, Act.eval, hd]
  simp [wpList, Region.wanted, Oper.wp, execOp, Instr.makeFunc, Oper.upon, Act.eval, hp1, hp2, Act.put, hd]
  left; left
  simp only [Act.put, hd] at hK
  rw [show ({ tmps := a.tmps.setIfInBounds d (Value.func (.func g) #[] #[p1, p2]), defers := a.defers } : Act).eval = _ from rfl] at hv
  rw [hv]; simpa using hK

theorem enters_run {g : FuncId} (hg : Enters P g) (args : Array Value) : (callFunc g args).run P w = .ok (.enter g args) w := by
  obtain ⟨fn, hf, hb, hne⟩ := hg
  have hbn : fn.body ≠ none := by intro e; simp [e] at hb
  have hne' : fn.name ≠ "runtime.NumGoroutine" := by simpa using hne
  simp [callFunc, hf, hne', hbn]

theorem settle_ret : settle .returning = .returning := rfl

theorem leaves_done {fn : Func} {tmps : Array Value} {R : Ending → World → Prop} {w : World} (h : ∃ v, (results fn tmps).run P w = .ok v w ∧ R (.returned v) w) : Leaves P fn tmps R [] .returning w := h

theorem ptrV_of {F : Nat → Prop} {i : Nat} {x : Value} (h : VR F w B (.ptr i 0 0) x) {z : AV} (hm : mem[i]? = some (.var [z])) (hl : MR O F w B mem) : ∃ b, B[i]? = some (.var b) ∧ x = cellP b := by
  cases h with
  | @ptrV _ _ b _ hb => exact ⟨b, hb, rfl⟩
  | @ptrA _ _ _ _ g sz n cap hb => exact (hl.br i _ _ hm hb).elim
  | ptrW hb => exact (hl.br i _ _ hm hb).elim

/-- A CONTRACT OUT OF A BODY THAT DEFERS A CLOSURE WHICH RECOVERS. -/
theorem ok_of_defer {Γ : Env} (hΓ : EnvOk P Γ) (hmix : P.follows .mixedOrders = true) {f : FuncId} {fn : Func} {c0 c : Code} {id g d c1 c2 : Nat} {o1 o2 : Oper} {ats : Array TypeId} {ac0 ac : ACode} {rs : List ARes} {eff : AV → Option (Value × Value)}
    (hf : P.funcs[f]? = some fn) (hb : fn.body = some (.seq c0 (.seq (.region id #[o1, o2] false) c)))
    (hc0 : compCode P c0 = some ac0.plain) (hfine0 : Fine ⟨fn.ntmps, []⟩ ac0) (hc : compCode P c = some ac.plain) (hfine : Fine ⟨fn.ntmps, [c1, c2]⟩ ac)
    (hr : fn.results.toList.mapM (compRes P) = some rs) (hname : (fn.name == "runtime.NumGoroutine") = false)
    (h1 : o1.op = .makeFunc (.func g) #[] #[.tmp c1, .tmp c2]) (hd1 : o1.dst = some d) (hg1 : o1.guard = none)
    (h2 : o2.op = .defer { callee := .value (.tmp d), args := #[], argTypes := ats }) (hd2 : o2.dst = none) (hg2 : o2.guard = none)
    (hlt : d < fn.ntmps) (hlt1 : c1 < fn.ntmps) (hlt2 : c2 < fn.ntmps) (hdc : d ≠ c1 ∧ d ≠ c2 ∧ c1 ≠ c2) (hgo : Enters P g) (hcat : Catches P g eff) (sp : Spec)
    (h : ∀ args mem r mem1, sp args mem = some (r, mem1) → ∃ ts0 m0 i1 i2 z1 z2, mem.length ≤ m0.length ∧ wpA Γ mem.length ac0 (atQ ts0 m0) (entry 0 args) mem ∧ tget ts0 c1 = .ptr i1 0 0 ∧ tget ts0 c2 = .ptr i2 0 0 ∧ i1 ≠ i2 ∧
      m0[i1]? = some (.var [z1]) ∧ m0[i2]? = some (.var [z2]) ∧ wpA Γ m0.length ac (dfrQ mem.length rs r mem1 c1 c2 i1 i2 eff) (tput ts0 (some d) .any) m0) : CallOk P f sp := by
  refine .inl ⟨⟨fn, hf, by simp [hb], hname⟩, ?_⟩
  intro args mem r mem1 hsp O F B w vs hO hm ha
  obtain ⟨ts0, m0, i1, i2, z1, z2, hlen0, hwp0, ht1, ht2, hne, hm1, hm2, hwp⟩ := h args mem r mem1 hsp
  have habs : Abs ⟨⟨fn.ntmps, []⟩, [], fun _ => undef⟩ O F w B (entry 0 args) mem { tmps := vs.toArray ++ Array.replicate (fn.ntmps - vs.toArray.size) undef, defers := [] } w := by
    refine ⟨⟨rfl, fun _ h => by cases h⟩, by simp; omega, F, B, hm, ?_, .refl F w B, .refl O w, fun _ h => .inl h⟩
    refine entry_ok args vs 0 _ ha (fun i x hi => ?_)
    have := (List.getElem?_eq_some_iff.1 hi).1
    rw [Nat.zero_add, Array.getElem?_append_left (by simpa using this)]
    simpa using hi
  refine calls_of_wp_defers hf hb (wp_seq (wp_mono (code_sound hΓ hmix hm.len hO ac0 c0 _ _ _ _ w hc0 hfine0.1 (pairs_eq hfine0.2) hwp0 habs) ?_))
  intro e a1 w1 he
  cases e with
  | normal =>
    obtain ⟨ts1, m1, ⟨rfl, rfl⟩, hab⟩ := he
    obtain ⟨⟨hd0, _⟩, hT, F1, B1, k1, k2, k3, k4, k5⟩ := hab
    have hv1 := k2 c1
    have hv2 := k2 c2
    rw [ht1] at hv1
    rw [ht2] at hv2
    obtain ⟨b1, hB1, hx1⟩ := ptrV_of hv1 hm1 k1
    obtain ⟨b2, hB2, hx2⟩ := ptrV_of hv2 hm2 k1
    have hTn : fn.ntmps ≤ a1.tmps.size := hT
    have hp : ∀ {k : Nat} {x : Value}, k < fn.ntmps → a1.tmps.getD k undef = x → a1.tmps[k]? = some x := by
      intro k x hk he
      rw [Array.getD_eq_getD_getElem?, Array.getElem?_eq_getElem (Nat.lt_of_lt_of_le hk hTn)] at he
      rw [Array.getElem?_eq_getElem (Nat.lt_of_lt_of_le hk hTn)]
      simpa using he
    have hb12 : b1 ≠ b2 := by
      intro hbb
      have q1 := ownB_mk hm1 hB1 rfl rfl
      have q2 := ownB_mk hm2 hB2 rfl rfl
      exact hne (k1.sep i1 i2 b1 q1 (hbb ▸ q2))
    refine wp_seq (dfr_region (P := P) h1 hd1 hg1 h2 hd2 hg2 (Nat.lt_of_lt_of_le hlt hTn) (hp hlt1 hx1) (hp hlt2 hx2) ?_)
    have hO1 : ∀ b, w1.heap.size ≤ b → O b := fun b hb => hO b (Nat.le_trans k4.size hb)
    let dd : Deferred := { target := .fn (.func g) #[cellP b1, cellP b2], args := #[] }
    let fv : Value := .func (.func g) #[] #[cellP b1, cellP b2]
    have habs1 : Abs ⟨⟨fn.ntmps, [c1, c2]⟩, [dd], fun k => if k = c1 then cellP b1 else cellP b2⟩ O F1 w1 B1 (tput ts1 (some d) .any) m1 { a1.put (some d) fv with defers := dd :: a1.defers } w1 := by
      refine ⟨⟨by simp [hd0], fun k hk => ?_⟩, ?_, F1, B1, k1, ?_, .refl F1 w1 B1, .refl O w1, fun _ h => .inl h⟩
      · simp only [Act.put]
        have hk' : k = c1 ∨ k = c2 := by simpa using hk
        have hkd : d ≠ k := by rcases hk' with rfl | rfl; exact hdc.1; exact hdc.2.1
        rw [Array.getD_eq_getD_getElem?, Array.getElem?_setIfInBounds_ne hkd, ← Array.getD_eq_getD_getElem?]
        rcases hk' with rfl | rfl
        · simpa using hx1
        · rw [if_neg (Ne.symm hdc.2.2)]; exact hx2
      · simpa [Act.put] using hTn
      · rw [tget_tput]
        exact put_ts k2 (some d) (fun k hk => by cases hk; exact Nat.lt_of_lt_of_le hlt hTn) (.any _)
    refine wp_mono (code_sound (T := ⟨⟨fn.ntmps, [c1, c2]⟩, [dd], fun k => if k = c1 then cellP b1 else cellP b2⟩) hΓ hmix k1.len hO1 ac c _ _ _ _ w1 hc hfine.1 (pairs_eq hfine.2) hwp habs1) ?_
    have fin : ∀ (v v1 : AV) (m : List Blk) (x : Value) (w' : World) (F' : Nat → Prop) (B' : List Loc), finV mem.length m v v1 mem1 → MR O F' w' B' m → VR F' w' B' v x → Ext F F' w w' B B' → Ev O w w' → (∀ b, F' b → F b ∨ O b) →
        ∃ (G : Nat → Prop) (B1 : List Loc), MR O G w' B1 mem1 ∧ Ext F G w w' B B1 ∧ Ev O w w' ∧ (∀ b, G b → F b ∨ O b) ∧ VR G w' B1 v1 x := by
      intro v v1 m x w' F' B' h1 h2 h3 h4 h5 h6
      obtain ⟨G, B1, g1, g2, g3, g4, g5⟩ := fin_ok h1 hm.len h4.pl h2 h3
      refine ⟨G, B1, g1, ⟨fun b hb => g3 b (h4.fr b hb), g5, h4.hp⟩, h5, fun b hb => ?_, g2⟩
      rcases g4 b hb with hb | hb
      · exact h6 b hb
      · exact .inr hb
    have last : ∀ (ts : Tm) (m : List Blk) (a' : Act) (w' : World) (F' : Nat → Prop) (B' : List Loc), finQ mem.length rs r mem1 .ret ts m → MR O F' w' B' m → TR F' w' B' (tget ts) a' → Ext F F' w w' B B' → Ev O w w' → (∀ b, F' b → F b ∨ O b) →
        ∃ v, (results fn a'.tmps).run P w' = .ok v w' ∧ ∃ (F' : Nat → Prop) (B' : List Loc), MR O F' w' B' mem1 ∧ Ext F F' w w' B B' ∧ Ev O w w' ∧ (∀ b, F' b → F b ∨ O b) ∧ RelRes F' w' B' r (.returned v) := by
      intro ts m a' w' F' B' hq q1 q2 q3 q4 q5
      cases r with
      | pan _ => exact hq.elim
      | ret v1 =>
        obtain ⟨vs', v2, g1, g2, hsame⟩ := hq
        obtain ⟨x, g3, g4⟩ := results_run (P := P) hr g1 q1 q2
        obtain ⟨G, B1, p1, p2, p3, p4, p5⟩ := fin _ _ m x w' F' B' g2 q1 g4 q3 q4 q5
        exact ⟨x, g3, G, B1, p1, p2, p3, p4, hsame.ok p5⟩
    have both : ∀ {F' : Nat → Prop} {w' : World} {B' : List Loc}, Ext F1 F' w1 w' B1 B' → Ev O w1 w' → (∀ b, F' b → F1 b ∨ O b) → Ext F F' w w' B B' ∧ Ev O w w' ∧ ∀ b, F' b → F b ∨ O b := by
      intro F' w' B' q3 q4 q5
      refine ⟨k3.trans q3, k4.trans q4, fun b hb => ?_⟩
      rcases q5 b hb with hb | hb
      · exact k5 b hb
      · exact .inr hb
    have norm : ∀ (ts : Tm) (m : List Blk) (a' : Act) (w' : World), finQ mem.length rs r mem1 .ret ts m → Abs ⟨⟨fn.ntmps, [c1, c2]⟩, [dd], fun k => if k = c1 then cellP b1 else cellP b2⟩ O F1 w1 B1 ts m a' w' →
        Leaves P fn a'.tmps (fun e w' => ∃ (F' : Nat → Prop) (B' : List Loc), MR O F' w' B' mem1 ∧ Ext F F' w w' B B' ∧ Ev O w w' ∧ (∀ b, F' b → F b ∨ O b) ∧ RelRes F' w' B' r e) a'.defers .returning w' := by
      intro ts m a' w' hq hab
      obtain ⟨⟨hd, _⟩, _, F', B', q1, q2, q3, q4, q5⟩ := hab
      obtain ⟨e3, e4, e5⟩ := both q3 q4 q5
      rw [hd]
      refine leaves_cons (f := g) (args := #[cellP b1, cellP b2]) (by simp) (by simpa [go_sem] using enters_run hgo _) ((hcat.1 b1 b2 w').mono ?_)
      rintro e u' w'' ⟨⟨v, rfl⟩, rfl, hbw⟩
      have ext : Ext F' F' w' w'' B' B' := ⟨fun _ h => h, fun _ _ h => h, fun b hF => hbw.block b (q1.fr b hF)⟩
      have ev : Ev O w' w'' := ⟨hbw.os, hbw.tape, hbw.output, hbw.size, fun k hk _ => hbw.block k hk⟩
      have q1' : MR O F' w'' B' m := q1.go hbw.size fun b h => by
        rcases h with h | ⟨i, h⟩
        · exact hbw.block b (q1.fr b h)
        · exact hbw.block b (q1.own i b h).2.2
      exact leaves_done (last ts m a' w'' F' B' hq q1' (q2.mono ext) (e3.trans ext) (e4.trans ev) e5)
    intro e a' w' he
    cases e with
    | normal => obtain ⟨ts, m, g1, g2⟩ := he; exact norm ts m a' w' g1 g2
    | ret => obtain ⟨ts, m, g1, g2⟩ := he; exact norm ts m a' w' g1 g2
    | panic ch =>
      obtain ⟨v, m, x, hq, rfl, ⟨hd, hval⟩, F', B', q1, q2, q3, q4, q5⟩ := he
      obtain ⟨y1, y2, z1', z2', he, hi1, hi2, hq⟩ := hq
      have hB1' := q3.pl _ _ hB1
      have hB2' := q3.pl _ _ hB2
      obtain ⟨t1, xs1, hh1, hc1⟩ := q1.br _ _ _ hi1 hB1'
      obtain ⟨t2, xs2, hh2, hc2⟩ := q1.br _ _ _ hi2 hB2'
      obtain ⟨x1, rfl, _⟩ := hc1.of_one
      obtain ⟨x2, rfl, _⟩ := hc2.of_one
      have s1 := q1.setVar hi1 hB1' y1
      have hi2' : (m.set i1 (.var [.v y1]))[i2]? = some (.var [z2']) := by rw [List.getElem?_set_ne hne]; exact hi2
      have s2 := s1.1.setVar hi2' hB2' y2
      show Leaves P fn a'.tmps _ a'.defers (.panicking [{ v := x, recovered := false }]) w'
      rw [hd]
      refine leaves_cons (f := g) (args := #[cellP b1, cellP b2]) (by simp) (by simpa [go_sem] using enters_run hgo _) ((hcat.2 b1 b2 w' F' B' v x y1 y2 x1 x2 t1 t2 q2 he hb12 hh1 hh2).mono ?_)
      rintro e u' w'' ⟨⟨v', rfl⟩, rfl, rfl⟩
      have e3 := q3.trans (s1.2.1.trans s2.2.1)
      have e4 := q4.trans (s1.2.2.trans s2.2.2)
      obtain ⟨f3, f4, f5⟩ := both e3 e4 q5
      refine leaves_done (last _ _ a' _ F' B' hq s2.1 ?_ f3 f4 f5)
      intro k
      simp only [tget]
      have hv1 := hval c1 (by simp)
      have hv2 := hval c2 (by simp)
      simp only [if_true] at hv1
      simp only [if_neg (Ne.symm hdc.2.2)] at hv2
      split
      · rename_i hk; subst hk; rw [hv1]; exact .ptrV hB1'
      · split
        · rename_i hk; subst hk; rw [hv2]; exact .ptrV hB2'
        · exact .any _
    | exit id => obtain ⟨ts, m, g1, g2⟩ := he; exact g1.elim
    | goto l => exact he.elim
    | outgrown => exact he.elim
  | ret => obtain ⟨ts, m, g1, g2⟩ := he; exact g1.elim
  | panic ch => obtain ⟨v, m, x, g1, g2⟩ := he; exact g1.elim
  | exit id => obtain ⟨ts, m, g1, g2⟩ := he; exact g1.elim
  | goto l => exact he.elim
  | outgrown => exact he.elim

end
end Go.Proofs.YtajpaagbfmjacaaGreatDoor.Am
/-
  THE ABSTRACT MACHINE, SEVENTEENTH PART: how calls are evaluated; what is known of functions, put together; bytes. No program is named here.
-/
namespace Go.Proofs.YtajpaagbfmjacaaGreatDoor.Am
set_option linter.unusedSimpArgs false
set_option linter.unusedVariables false
open Go

section
variable {α β : Type} {Γ : Env} {N : Nat} {Q : Post} {ts ts' : Tm} {m m' : List Blk}

def putBack (ids : List Nat) (m1 mo : List Blk) : List Blk := putM ids ((mo.take ids.length).map (Blk.mapId (back ids m1.length))) m1 ++ (mo.drop ids.length).map (Blk.mapId (back ids m1.length))

/-- A call's end: blocks come back. -/
noncomputable def stepC (K : AV → List Blk → Seg) (_ : Tag K) (ids : List Nat) (m1 : List Blk) (o : Option (Res × List Blk)) : Seg := match o with
  | some (.ret v, mo) => needS (ids.length ≤ mo.length) (K (v.mapId (back ids m1.length)) (putBack ids m1 mo))
  | some (.pan v, mo) => needS (ids.length ≤ mo.length) (.pan (v.mapId (back ids m1.length)) (putBack ids m1 mo))
  | none => .bad
noncomputable def call4 (K : AV → List Blk → Seg) (g : Tag K) (sp : Spec) (m1 : List Blk) (as : List AV) (ids : List Nat) : Seg := needS (subOk ids m1 (AV.idsAll as) = true) (stepC K g ids m1 (sp (AV.mapIdAll (idx ids) as) (subM ids m1)))
noncomputable def call3 (K : AV → List Blk → Seg) (g : Tag K) (sp : Spec) (m1 : List Blk) (as : List AV) : Seg := call4 K g sp m1 as (closeIds m1 3 (addNew [] (AV.idsAll as)))
noncomputable def call2 (K : AV → List Blk → Seg) (g : Tag K) (sp : Spec) (m1 : List Blk) (ms : List Bool) (args : List AV) : Seg := call3 K g sp m1 (prepA m1 ms args)
noncomputable def call1 (K : AV → List Blk → Seg) (g : Tag K) (o : Option (List Bool × Spec)) (m : List Blk) (args : List AV) : Seg := match o with
  | some (ms, sp) => call2 K g sp (freezeIds (fzOf ms args) m) ms args
  | none => .bad

theorem stepS_call (K : AV → List Blk → Seg) (g : Tag K) (m : List Blk) (f : FuncId) (args : List AV) : stepS K g (callA Γ m f args) = call1 K g (Γ f) m args := by
  unfold callA call1
  cases Γ f with
  | none => rfl
  | some p =>
    obtain ⟨ms, sp⟩ := p
    simp only [call2, call3, call4, callB]
    generalize prepA (freezeIds (fzOf ms args) m) ms args = as
    generalize freezeIds (fzOf ms args) m = m1
    generalize closeIds m1 3 (addNew [] (AV.idsAll as)) = ids
    unfold needS
    split
    · cases h : sp (AV.mapIdAll (idx ids) as) (subM ids m1) with
      | none => rfl
      | some p =>
        obtain ⟨r, mo⟩ := p
        simp only []
        split
        · rename_i hl
          cases r <;> simp [stepC, needS, hl, putBack, Res.mapId, stepS]
        · rename_i hl
          cases r <;> simp [stepC, needS, hl, stepS]
    · rfl
theorem call1_some (K : AV → List Blk → Seg) (g : Tag K) (ms : List Bool) (sp : Spec) (m : List Blk) (args : List AV) : call1 K g (some (ms, sp)) m args = call2 K g sp (freezeIds (fzOf ms args) m) ms args := rfl
theorem stepC_ret (K : AV → List Blk → Seg) (g : Tag K) (ids : List Nat) (m1 mo : List Blk) (v : AV) : stepC K g ids m1 (some (.ret v, mo)) = needS (ids.length ≤ mo.length) (K (v.mapId (back ids m1.length)) (putBack ids m1 mo)) := rfl
theorem stepC_pan (K : AV → List Blk → Seg) (g : Tag K) (ids : List Nat) (m1 mo : List Blk) (v : AV) : stepC K g ids m1 (some (.pan v, mo)) = needS (ids.length ≤ mo.length) (.pan (v.mapId (back ids m1.length)) (putBack ids m1 mo)) := rfl
theorem stepC_none (K : AV → List Blk → Seg) (g : Tag K) (ids : List Nat) (m1 : List Blk) : stepC K g ids m1 none = .bad := rfl
theorem stepC_if (c : Prop) [Decidable c] (x : Option (Res × List Blk)) (K : AV → List Blk → Seg) (g : Tag K) (ids : List Nat) (m1 : List Blk) : stepC K g ids m1 (if c then x else none) = needS c (stepC K .mk ids m1 x) := by unfold needS; by_cases h : c <;> simp only [h, if_true, if_false] <;> rfl
theorem stepC_cond (b : Bool) (x y : Option (Res × List Blk)) (K : AV → List Blk → Seg) (g : Tag K) (ids : List Nat) (m1 : List Blk) : stepC K g ids m1 (bif b then x else y) = gateS b (stepC K .mk ids m1 x) (stepC K .mk ids m1 y) .mk .mk := by cases b <;> rfl
theorem stepC_map (f : β → Res × List Blk) (o : Option β) (K : AV → List Blk → Seg) (g : Tag K) (ids : List Nat) (m1 : List Blk) : stepC K g ids m1 (o.map f) = lookS (fun x => stepC K .mk ids m1 (some (f x))) .mk o := by cases o <;> rfl
/-- Two ways, by what there is. -/
def caseS (o : Option α) (K : α → Seg) (n : Seg) (_ : Tag K) (_ : Tag n) : Seg := match o with
  | some x => K x
  | none => n
theorem caseS_some (x : α) (K : α → Seg) (n : Seg) (g : Tag K) (h : Tag n) : caseS (some x) K n g h = K x := rfl
theorem caseS_none (K : α → Seg) (n : Seg) (g : Tag K) (h : Tag n) : caseS none K n g h = n := rfl
theorem stepC_elim (o : Option β) (x : Option (Res × List Blk)) (f : β → Option (Res × List Blk)) (K : AV → List Blk → Seg) (g : Tag K) (ids : List Nat) (m1 : List Blk) : stepC K g ids m1 (o.elim x f) = caseS o (fun a => stepC K .mk ids m1 (f a)) (stepC K .mk ids m1 x) .mk .mk := by cases o <;> rfl
theorem seg_case {R : Tm → List Blk → Prop} {S : AV → List Blk → Prop} {o : Option α} {K : α → Seg} {n : Seg} {g : Tag K} {h : Tag n} (h1 : ∀ x, o = some x → segP R S (K x)) (h2 : o = none → segP R S n) : segP R S (caseS o K n g h) := by
  cases o with
  | some x => exact h1 x rfl
  | none => exact h2 rfl
theorem closeIds_nil' (m : List Blk) (n : Nat) : closeIds m n [] = [] := closeIds_nil m n
theorem subM_nil (m : List Blk) : subM [] m = [] := rfl
theorem putM_nil (l m : List Blk) : putM [] l m = m := by cases l <;> rfl
theorem putBack_nil (m1 mo : List Blk) : putBack [] m1 mo = m1 ++ mo.map (Blk.mapId (back [] m1.length)) := by simp [putBack, putM]
theorem subOk_nil (m : List Blk) : subOk [] m [] = true := rfl
end

/-! ### What is known of functions -/
def Env.none : Env := fun _ => Option.none
def Env.put (Γ : Env) (f : FuncId) (ms : List Bool) (sp : Spec) : Env := fun g => if g = f then some (ms, sp) else Γ g

theorem Env.none_ok (P : Program) : EnvOk P Env.none := fun _ _ _ h => by cases h
theorem Env.put_ok {P : Program} {Γ : Env} {f : FuncId} {sp : Spec} (ms : List Bool) (h : EnvOk P Γ) (k : CallOk P f sp) : EnvOk P (Γ.put f ms sp) := by
  intro g ms' sp' hg
  unfold Env.put at hg
  split at hg
  · rename_i e; subst e; cases hg; exact k
  · exact h g ms' sp' hg

/-- An empty slice as one of elements of a size. -/
def fix1 (k : Nat) : AV → AV
  | .fsl n es => .fsl (bif es.isEmpty then k else n) es
  | a => a
def fixL : List Nat → List AV → List AV
  | k :: ks, a :: as => fix1 k a :: fixL ks as
  | _, as => as
def fixS (ks : List Nat) (sp : Spec) : Spec := fun args mem => sp (fixL ks args) mem

theorem fix1_ok {F : Nat → Prop} {w : World} {B : List Loc} {k : Nat} {a : AV} {x : Value} (h : VR F w B a x) : VR F w B (fix1 k a) x := by
  unfold fix1
  split
  · rename_i n es
    cases es with
    | nil => exact (Same.nil n k).ok h
    | cons e es => exact h
  · exact h
theorem fixL_ok {F : Nat → Prop} {w : World} {B : List Loc} : ∀ (ks : List Nat) {as : List AV} {xs : List Value}, CR F w B as xs → CR F w B (fixL ks as) xs
  | [], as, xs, h => by unfold fixL; exact h
  | k :: ks, [], xs, h => by unfold fixL; exact h
  | k :: ks, a :: as, xs, h => by
    cases h with
    | cons h t => exact .cons (fix1_ok h) (fixL_ok ks t)
theorem CallOk.fix {P : Program} {f : FuncId} {sp : Spec} (ks : List Nat) (h : CallOk P f sp) : CallOk P f (fixS ks sp) := by
  rcases h with ⟨h1, h2⟩ | h | h
  · refine .inl ⟨h1, ?_⟩
    intro args mem r mem1 hsp O F B w vs hO hm ha
    exact h2 (fixL ks args) mem r mem1 hsp O F B w vs hO hm (fixL_ok ks ha)
  · refine .inr (.inl ?_)
    intro args mem r mem1 hsp
    obtain ⟨e1, e2, v, e3, e4⟩ := h (fixL ks args) mem r mem1 hsp
    exact ⟨e1, e2, v, e3, fun F w vs hc => e4 F w vs (fixL_ok ks hc)⟩
  · refine .inr (.inr ?_)
    intro args mem r mem1 hsp
    obtain ⟨e1, v, e3, e4⟩ := h (fixL ks args) mem r mem1 hsp
    exact ⟨e1, v, e3, fun O F B w vs hm hc => e4 O F B w vs hm (fixL_ok ks hc)⟩

theorem if_some {α : Type} {c : Prop} [Decidable c] {x : Option α} {y : α} (h : (if c then x else none) = some y) : c ∧ x = some y := by
  by_cases hc : c
  · rw [if_pos hc] at h; exact ⟨hc, h⟩
  · rw [if_neg hc] at h; cases h
theorem map_some {α β : Type} {f : α → β} {x : Option α} {y : β} (h : x.map f = some y) : ∃ a, x = some a ∧ f a = y := Option.map_eq_some_iff.1 h

/-! ### Bytes -/
def bv (l : List UInt8) : List AV := l.map fun b => .v (.int .u8 b.toNat)
/-- A spec's bytes: of a slice of bytes. -/
def inB : List AV → Option (List UInt8)
  | [] => some []
  | .v (.int .u8 n) :: r => if 0 ≤ n ∧ n < 256 then (inB r).map (UInt8.ofNat n.toNat :: ·) else none
  | _ => none
theorem bv_nil : bv [] = [] := rfl
theorem bv_fold (l : List UInt8) : l.map (fun b => AV.v (.int .u8 b.toNat)) = bv l := rfl
theorem bv_length (l : List UInt8) : (bv l).length = l.length := by simp [bv]
theorem bv_append (l m : List UInt8) : bv l ++ bv m = bv (l ++ m) := by simp [bv]
theorem bv_get (l : List UInt8) (i : Nat) : (bv l)[i]? = l[i]?.map fun b => .v (.int .u8 b.toNat) := by simp [bv]
theorem bv_getElem (l : List UInt8) (i : Nat) (h : i < (bv l).length) : (bv l)[i] = .v (.int .u8 ((l[i]'(by simpa [bv] using h)).toNat : Int)) := by simp [bv]
theorem inB_nil : inB [] = some [] := rfl
theorem bv_take (l : List UInt8) (i : Nat) : (bv l).take i = bv (l.take i) := by simp [bv]
theorem bv_drop (l : List UInt8) (i : Nat) : (bv l).drop i = bv (l.drop i) := by simp [bv]
theorem bv_isEmpty (l : List UInt8) : (bv l).isEmpty = l.isEmpty := by cases l <;> rfl
theorem bv_eq_nil (l : List UInt8) : (bv l = []) = (l = []) := by cases l <;> simp [bv]
theorem bytesOf_bv : ∀ l : List UInt8, bytesOf (bv l) = some l
  | [] => rfl
  | b :: l => by
    have := bytesOf_bv l
    simp only [bv, List.map_cons, bytesOf] at this ⊢
    rw [this]
    simp
theorem bytesOf_some : ∀ (es : List AV) (l : List UInt8), bytesOf es = some l → (∀ e ∈ es, ∃ n : Int, e = .v (.int .u8 n) ∧ 0 ≤ n ∧ n < 256) → es = bv l
  | [], l, h, _ => by simp [bytesOf] at h; subst h; rfl
  | e :: es, l, h, hr => by
    obtain ⟨n, rfl, h0, h1⟩ := hr e (by simp)
    simp only [bytesOf] at h
    cases hb : bytesOf es with
    | none => simp [hb] at h
    | some l' =>
      simp [hb] at h
      subst h
      rw [bytesOf_some es l' hb (fun e he => hr e (by simp [he]))]
      simp [bv]
      omega
theorem bv_snoc (l : List UInt8) (n : Int) (h : 0 ≤ n ∧ n < 256) : bv l ++ [.v (.int .u8 n)] = bv (l ++ [UInt8.ofNat n.toNat]) := by
  simp [bv]; omega
theorem bv_snoc8 (l : List UInt8) (b : UInt8) : bv l ++ [.v (.int .u8 (b.toNat : Int))] = bv (l ++ [b]) := by simp [bv]
theorem bv_shaped (l : List UInt8) : (bv l).all AV.shaped = true := by simp [bv, AV.shaped, AV.one, Value.oneCell']
theorem bv_one (n : Int) (h : 0 ≤ n ∧ n < 256) : [AV.v (.int .u8 n)] = bv [UInt8.ofNat n.toNat] := by
  simp [bv]; omega

theorem inB_bv : ∀ l : List UInt8, inB (bv l) = some l
  | [] => rfl
  | b :: l => by
    have h1 := inB_bv l
    have h2 : (b.toNat : Int) < 256 := by have := b.toNat_lt; omega
    simp only [bv, List.map_cons, inB] at h1 ⊢
    rw [h1, if_pos ⟨by omega, h2⟩]
    simp
theorem inB_some : ∀ (es : List AV) (l : List UInt8), inB es = some l → es = bv l
  | [], l, h => by simp [inB] at h; subst h; rfl
  | e :: es, l, h => by
    unfold inB at h
    split at h
    · rename_i hh; cases hh
    · rename_i n r hh
      cases hh
      split at h
      · rename_i hn
        cases hb : inB es with
        | none => simp [hb] at h
        | some l' =>
          simp [hb] at h
          subst h
          rw [inB_some es l' hb]
          simp [bv]
          omega
      · cases h
    · cases h

theorem empty_beq : ((⟨#[]⟩ : ByteArray) == ⟨#[]⟩) = true := by decide
theorem idxOf_at (a b : Nat) (l : List Nat) : (a :: l).idxOf b = if a = b then 0 else l.idxOf b + 1 := by
  rw [List.idxOf_cons]; by_cases h : a = b
  · simp [h]
  · rw [if_neg h, show (a == b) = false from beq_false_of_ne h]; rfl
attribute [simp] idxOf_at empty_beq minI maxI stepS_call call1_some call2 call3 call4 stepC_ret stepC_pan stepC_none stepC_if stepC_cond stepC_map stepC_elim caseS_some caseS_none closeIds closeIds_nil' subM_nil putM_nil putBack_nil putBack putM subM subOk_nil subOk addNew fzOf prepA idx back Res.mapId Env.put Env.none fix1 fixL fixS
  bv_getElem inB_nil bv_snoc8 bv_append bv_nil bv_fold bv_length bv_get bv_take bv_drop bv_isEmpty bv_eq_nil bytesOf_bv bv_shaped inB_bv
end Go.Proofs.YtajpaagbfmjacaaGreatDoor.Am
/-
  THE ABSTRACT MACHINE, EIGHTEENTH PART: from a law's contract to its row: the arguments as they are read. No program is named here.
-/
namespace Go.Proofs.YtajpaagbfmjacaaGreatDoor.Am
set_option linter.unusedSimpArgs false
set_option linter.unusedVariables false
open Go Go.RowKit Go.ChangeShapes Go.WideShapes

/-- Blocks that were there ahead of the call. -/
def old (w : World) : Nat → Prop := fun b => b < w.heap.size

theorem law_calls {P : Program} {f : FuncId} {sp : Spec} (h : CallOk P f sp) (he : Enters P f) {args : List AV} {vs : List Value} {w : World} {x : Value} (hsp : sp args [] = some (.ret (.v x), []))
    (hc : CR (old w) w [] args vs) (hG : Gl (old w) w := by exact ⟨by simp [globs], trivial, by simp [globA]⟩) : Calls P f vs.toArray w fun e w' => e = .returned x ∧ Below w.heap.size w w' := by
  have hm0 : MR (fun b => w.heap.size ≤ b) (old w) w [] [] := by
      refine ⟨rfl, fun i b l h => by simp at h, fun i j b h => ?_, fun i b h => ?_, fun b h => h, hG⟩
      · obtain ⟨_, _, h1, _⟩ := ownB_some h; simp at h1
      · obtain ⟨_, _, h1, _⟩ := ownB_some h; simp at h1
  rcases h with ⟨_, h⟩ | h | h
  · have hm : MR (fun b => w.heap.size ≤ b) (old w) w [] [] := by
      refine ⟨rfl, fun i b l h => by simp at h, fun i j b h => ?_, fun i b h => ?_, fun b h => h, hG⟩
      · obtain ⟨_, _, h1, _⟩ := ownB_some h; simp at h1
      · obtain ⟨_, _, h1, _⟩ := ownB_some h; simp at h1
    refine (h args [] _ [] hsp _ (old w) [] w vs (fun b hb => hb) hm hc).mono ?_
    rintro e w' ⟨F', B', _, _, hev, _, hr⟩
    refine ⟨?_, ⟨hev.os, hev.tape, hev.output, hev.size, fun k hk => hev.block k hk (by simpa using hk)⟩⟩
    cases e with
    | returned y => simp only [RelRes] at hr; rw [hr.of_v]
    | panicked ch => exact hr.elim
    | outgrown => exact hr.elim
  · obtain ⟨_, _, v, hv, hx⟩ := h args [] _ [] hsp
    obtain ⟨y, hy, _⟩ := hx (old w) w vs hc
    rw [enters_run he] at hy
    cases hy
  · obtain ⟨_, v, hv, hx⟩ := h args [] _ [] hsp
    obtain ⟨y, hy, _⟩ := hx _ (old w) [] w vs hm0 hc
    rw [enters_run he] at hy
    cases hy

/-- A call that writes nothing of what was there: its row's condition behind the call. -/
theorem post_of_below {H : Type} {enc : TypeId × Value → H} {P : Program} {f : Func} {s : ChangeSpec} {apart fresh handsOn again : Bool} {W W' : World} {args : Array Value} {v : Value} {ds gs : List (DataW H)} {before pa pv : List MemPlace}
    (hW : DataW.Whole enc P f.params.toList s.vars apart W args.toList ds gs before)
    (hres : ∀ (b : Nat) (sp : Nat → Bool) (hd : Bool), DataW.TrodAll enc P W' b sp hd f.resultTypes.toList (v.resultList f.resultTypes.size) (s.fn H (ds ++ gs)).results [])
    (hargs : ∀ sp : Nat → Bool, (∀ p ∈ before, sp p.block = true) → DataW.TrodAll enc P W' 0 sp true f.params.toList args.toList (s.fn H (ds ++ gs)).args pa)
    (hvars : ∀ sp : Nat → Bool, (∀ p ∈ before, sp p.block = true) → DataW.TrodVars enc P W' sp s.vars (s.fn H (ds ++ gs)).vars pv)
    (hps : before = pa ++ pv) (hb : Below W.heap.size W W')
    (hok : ∀ (j : Nat) (t : TypeId) (r : Value), f.resultTypes[j]? = some t → (v.resultList f.resultTypes.size)[j]? = some r → Value.okWide P W' .any 0 t r) :
    s.post enc P f apart fresh handsOn again W args v W' := by
  have hold : ∀ p ∈ before, (fun b => decide (b < W.heap.size)) p.block = true := fun p hp => by simpa using hW.lt p hp
  refine ⟨ds, gs, before, [], pa, pv, hW, hres _ _ _, hargs _ hold, hvars _ hold, hb.frame _, fun _ => ?_⟩
  have hlt := hW.lt
  obtain ⟨_, _, _, _, _, hz, hn⟩ := hW
  refine ⟨hok, _, _, ([] ++ pa) ++ pv, ⟨[] ++ pa, pv, trodAll_append (hargs _ (fun _ _ => rfl)) (hres _ _ _), hvars _ (fun _ _ => rfl), rfl, ?_, ?_⟩, ?_⟩
  · intro b off hp
    have hp' : MemPlace.cell b off ∈ before := by rw [hps]; simpa using hp
    rw [hb.frozen (p := ⟨b, off, none⟩) (hlt _ hp')]
    exact hz b off hp'
  · intro ha
    have := hn ha
    rw [hps] at this
    simpa using this
  · intro p hp _
    rw [hps]
    simpa using hp

section
variable {H : Type} {enc : TypeId × Value → H} {P : Program} {w : World} {spare : Nat → Bool} {held : Bool} {fuel : Nat} {t : TypeId} {cs : List Value} {x : DataW H × List MemPlace}

theorem cells_of {a : Addr} {n : Nat} {ys : List Value} (h : w.cells? 0 a n = some ys) : ys.length = n ∧ ∀ i, i < n → w.cell? ⟨a.block, a.off + i, none⟩ = ys[i]? ∧ (a.add i).spot = none := by
  unfold World.cells? at h
  rw [if_pos (Nat.zero_le _)] at h
  have hl := mapM_some_length h
  refine ⟨by simpa using hl, fun i hi => ?_⟩
  have hv := mapM_some_get h i i (by simp [hi])
  obtain ⟨v, hys⟩ : ∃ v, ys[i]? = some v := ⟨_, List.getElem?_eq_getElem (by rw [hl]; simpa using hi)⟩
  rw [hys] at hv ⊢
  have hspot : (a.add i).spot = none := by
    cases hsp : (a.add i).spot with
    | none => rfl
    | some s =>
      simp only [World.cell?] at hv
      split at hv
      · simp [hsp] at hv
      · cases hv
  refine ⟨?_, hspot⟩
  have e : a.add i = ⟨a.block, a.off + i, none⟩ := by
    unfold Addr.add at hspot ⊢
    split
    · rename_i h0
      subst h0
      rw [if_pos rfl] at hspot
      cases a
      simp_all
    · rfl
  rw [← e]; exact hv

/-- A slice that came as an argument: its elements, each as a relation tells. -/
theorem slice_of_trod {e : TypeId} (ht : P.underlying t = some (.slice e)) {n : Nat} (hn : P.cellsOf e = n) (hpos : 0 < n) (R : AV → Prop)
    (hel : ∀ (fuel : Nat) (cs : List Value) (y : DataW H × List MemPlace), DataW.trod enc P w 0 spare held fuel e cs = some y → cs.length = n → ∃ a, R a ∧ a.cells.length = n ∧ CR (old w) w [] a.cells cs)
    (h : DataW.trod enc P w 0 spare held fuel t cs = some x) : ∃ (v : Value) (es : List AV), cs = [v] ∧ VR (old w) w [] (.fsl n es) v ∧ (∀ a ∈ es, R a) ∧ es.length ≤ maxLen := by
  rcases DataW.trod_slice ht h with ⟨rfl, _⟩ | ⟨a, len, cap, elems, rest, m, rfl, rfl, _, _, hlc, hcap, hlen, hels, _, _⟩
  · exact ⟨_, [], rfl, .fslNil none 0, by simp, by simp [maxLen]⟩
  · rw [hn] at hels
    by_cases h0 : len = 0
    · subst h0
      exact ⟨_, [], rfl, .fslNil (some a) cap, by simp, by simp [maxLen]⟩
    have one : ∀ i, i < len → ∃ (ys : List Value) (b : AV), w.cells? 0 (a.add (i * n)) n = some ys ∧ R b ∧ b.cells.length = n ∧ CR (old w) w [] b.cells ys := by
      intro i hi
      have hb := hels i hi
      obtain ⟨y, hy⟩ : ∃ y, elems[i]? = some y := ⟨_, List.getElem?_eq_getElem (by omega)⟩
      rw [hy, Option.bind_eq_some_iff] at hb
      obtain ⟨ys, h1, h2⟩ := hb
      obtain ⟨b, r1, r2, r3⟩ := hel m ys y h2 (cells_of h1).1
      exact ⟨ys, b, h1, r1, r2, r3⟩
    have hspot : a.spot = none := by
      obtain ⟨ys, b, h1, _⟩ := one 0 (by omega)
      have := ((cells_of h1).2 0 hpos).2
      simpa [Addr.add] using this
    have addE : ∀ i, a.add i = ⟨a.block, a.off + i, none⟩ := by
      intro i
      unfold Addr.add
      split
      · rename_i h0; subst h0; cases a; simp_all
      · rfl
    have many : ∀ k, k ≤ len → ∃ (es : List AV) (xs : List Value), es.length = k ∧ (∀ b ∈ es, R b ∧ b.cells.length = n) ∧ CR (old w) w [] (AV.cellsAll es) xs ∧ xs.length = k * n ∧ ∀ j y, xs[j]? = some y → w.cell? ⟨a.block, a.off + j, none⟩ = some y := by
      intro k
      induction k with
      | zero => intro _; exact ⟨[], [], rfl, by simp, .nil, by simp, by simp⟩
      | succ k ih =>
        intro hk
        obtain ⟨es, xs, e1, e2, e3, e4, e5⟩ := ih (by omega)
        obtain ⟨ys, b, c1, c2, c3, c4⟩ := one k (by omega)
        obtain ⟨l1, l2⟩ := cells_of c1
        refine ⟨es ++ [b], xs ++ ys, by simp [e1], ?_, ?_, by simp [e4, l1, Nat.succ_mul], ?_⟩
        · intro b' hb'
          rcases List.mem_append.1 hb' with hb' | hb'
          · exact e2 b' hb'
          · rw [List.mem_singleton.1 hb']; exact ⟨c2, c3⟩
        · have : AV.cellsAll (es ++ [b]) = AV.cellsAll es ++ b.cells := by
            clear e1 e2 e3 e4 e5
            induction es with
            | nil => simp [AV.cellsAll]
            | cons e es ih => simp [AV.cellsAll, ih]
          rw [this]; exact CR.append e3 c4
        · intro j y hj
          by_cases hjk : j < xs.length
          · rw [List.getElem?_append_left hjk] at hj; exact e5 j y hj
          · rw [List.getElem?_append_right (by omega)] at hj
            have hlt : j - xs.length < n := by have := (List.getElem?_eq_some_iff.1 hj).1; omega
            have := (l2 (j - xs.length) hlt).1
            rw [hj, addE] at this
            simp only at this
            rw [show a.off + j = a.off + k * n + (j - xs.length) by omega]
            exact this
    obtain ⟨es, xs, e1, e2, e3, e4, e5⟩ := many len (Nat.le_refl _)
    obtain ⟨b, off, spot⟩ := a
    simp only at hspot e5
    subst hspot
    have hlt : b < w.heap.size := by
      obtain ⟨y, hy⟩ : ∃ y, xs[0]? = some y := ⟨_, List.getElem?_eq_getElem (by rw [e4]; exact Nat.mul_pos (by omega) hpos)⟩
      have := e5 0 y hy
      simp only [World.cell?] at this
      split at this
      · rename_i hh
        have := Array.getElem?_eq_some_iff.1 hh
        exact this.1
      · cases this
    have hv := VR.fsl (F := old w) (w := w) (B := []) (sz := n) (es := es) b off cap e3 (fun e he => (e2 e he).2) hlt e5 (by omega)
    rw [e1] at hv
    exact ⟨_, es, rfl, hv, fun a ha => (e2 a ha).1, by omega⟩
end
end Go.Proofs.YtajpaagbfmjacaaGreatDoor.Am
/-
  THE ABSTRACT MACHINE: more rules of evaluation.
-/
namespace Go.Proofs.YtajpaagbfmjacaaGreatDoor.Am
set_option linter.unusedSimpArgs false
set_option linter.unusedVariables false
open Go Go.Proofs

end Go.Proofs.YtajpaagbfmjacaaGreatDoor.Am
/-
  THE ABSTRACT MACHINE: contracts as relations; a body in one word; what is only looked at; empty slices in what is handed. No program is named here.
-/
namespace Go.Proofs.YtajpaagbfmjacaaGreatDoor.Am
set_option linter.unusedSimpArgs false
set_option linter.unusedVariables false
open Go

attribute [simp] elemsW nilQ nilV closeA zAV lookM

/-! ### A body in one word -/
def Good (P : Program) (f : FuncId) (ac : ACode) (rs : List ARes) : Prop :=
  ∃ (fn : Func) (c : Code), P.funcs[f]? = some fn ∧ fn.body = some c ∧ compCode P c = some ac.plain ∧ Fine ⟨fn.ntmps, []⟩ ac ∧ fn.results.toList.mapM (compRes P) = some rs ∧ (fn.name == "runtime.NumGoroutine") = false

/-- What is to be shown of a body, for a contract. -/
@[reducible] def WB (Γ : Env) (ac : ACode) (rs : List ARes) (sp : Spec) : Prop :=
  ∀ (args : List AV) (mem : List Blk) (r : Res) (mem1 : List Blk), sp args mem = some (r, mem1) → wpA Γ mem.length ac (finQ mem.length rs r mem1) (entry 0 args) mem

theorem Good.ok {P : Program} {f : FuncId} {ac : ACode} {rs : List ARes} {Γ : Env} (g : Good P f ac rs) (hΓ : EnvOk P Γ) (hmix : P.follows .mixedOrders = true) (sp : Spec) (h : WB Γ ac rs sp) : CallOk P f sp := by
  obtain ⟨fn, c, h1, h2, h3, h4, h5, h6⟩ := g
  exact ok_of_body hΓ hmix h1 h2 h3 h4 h5 h6 sp h
theorem Good.enters {P : Program} {f : FuncId} {ac : ACode} {rs : List ARes} (g : Good P f ac rs) : Enters P f := by
  obtain ⟨fn, c, h1, h2, h3, h4, h5, h6⟩ := g
  exact ⟨fn, h1, by rw [h2]; rfl, h6⟩

/-! ### Contracts as relations -/
open Classical in
noncomputable def spc {X : Type} (f : X → List AV × List Blk) (p : X → Prop) (g : X → Res × List Blk) : Spec := fun args mem =>
  if h : ∃ x, f x = (args, mem) ∧ p x then some (g h.choose) else none
theorem spc_some {X : Type} {f : X → List AV × List Blk} {p : X → Prop} {g : X → Res × List Blk} {args : List AV} {mem : List Blk} {r : Res} {mem1 : List Blk} (h : spc f p g args mem = some (r, mem1)) : ∃ x, f x = (args, mem) ∧ p x ∧ g x = (r, mem1) := by
  unfold spc at h
  split at h
  · rename_i hx
    exact ⟨hx.choose, hx.choose_spec.1, hx.choose_spec.2, Option.some.inj h⟩
  · cases h
theorem spc_at {X : Type} {f : X → List AV × List Blk} {p : X → Prop} {g : X → Res × List Blk} (inj : ∀ x y, f x = f y → x = y) (x : X) {d : Decidable (p x)} : spc f p g (f x).1 (f x).2 = if p x then some (g x) else none := by
  unfold spc
  by_cases hp : p x
  · have hx : ∃ y, f y = ((f x).1, (f x).2) ∧ p y := ⟨x, rfl, hp⟩
    rw [dif_pos hx, if_pos hp, inj _ x hx.choose_spec.1]
  · rw [if_neg hp, dif_neg]
    rintro ⟨y, h1, h2⟩
    rw [inj y x h1] at h2
    exact hp h2
theorem wb_spc {X : Type} {f : X → List AV × List Blk} {p : X → Prop} {g : X → Res × List Blk} {Γ : Env} {ac : ACode} {rs : List ARes}
    (h : ∀ x, p x → wpA Γ (f x).2.length ac (finQ (f x).2.length rs (g x).1 (g x).2) (entry 0 (f x).1) (f x).2) : WB Γ ac rs (spc f p g) := by
  intro args mem r mem1 hs
  obtain ⟨x, h1, h2, h3⟩ := spc_some hs
  have := h x h2
  rw [h1, h3] at this
  exact this

/-! ### What is only looked at -/
mutual
/-- Of such a value nothing is to be known of memory. -/
def AV.flat : AV → Bool
  | .agg cs => AV.flatAll cs
  | .tup cs => AV.flatAll cs
  | .any => true
  | .v _ => true
  | _ => false
def AV.flatAll : List AV → Bool
  | [] => true
  | a :: as => a.flat && AV.flatAll as
end
mutual
/-- As one sees it who only looks. -/
def AV.lend (mem : List Blk) : AV → AV
  | .agg cs => .agg (AV.lendAll mem cs)
  | .tup cs => .tup (AV.lendAll mem cs)
  | .fn g cs => .fn g (AV.lendAll mem cs)
  | .ifc t a => .ifc t (a.lend mem)
  | .osl id => match mem[id]? with
    | some (.arr _ sz es) => .fsl sz es
    | some (.frz a) => a
    | _ => .osl id
  | .ptr id i o => match mem[id]? with
    | some (.var cs) => if i = 0 ∧ AV.isBareAll (AV.frzAll mem cs) = true then .fptr (.agg (AV.frzAll mem cs)) o else .ptr id i o
    | some (.arr _ _ es) => match es[i]? with
      | some e => .fptr e o
      | none => .ptr id i o
    | _ => .ptr id i o
  | a => a
def AV.lendAll (mem : List Blk) : List AV → List AV
  | [] => []
  | a :: as => a.lend mem :: AV.lendAll mem as
end

section
variable {F G F' : Nat → Prop} {w w' : World} {B B' : List Loc} {mem : List Blk} {O : Nat → Prop}
mutual
theorem flat_ok : ∀ (a : AV) (x : Value), a.flat = true → VR F w B a x → VR F' w' B' a x
  | .any, x, _, _ => .any x
  | .v y, x, _, h => by have := h.of_v; subst this; exact .v _
  | .agg cs, x, hf, h => by obtain ⟨vs, rfl, hc⟩ := h.of_agg; exact .agg (flatAll_ok cs vs (by simpa only [AV.flat] using hf) hc)
  | .tup cs, x, hf, h => by obtain ⟨vs, rfl, hc⟩ := h.of_tup; exact .tup (flatAll_ok cs vs (by simpa only [AV.flat] using hf) hc)
  | .fsl .., _, hf, _ => by simp [AV.flat] at hf
  | .osl .., _, hf, _ => by simp [AV.flat] at hf
  | .ptr .., _, hf, _ => by simp [AV.flat] at hf
  | .fptr .., _, hf, _ => by simp [AV.flat] at hf
  | .win .., _, hf, _ => by simp [AV.flat] at hf
  | .fn .., _, hf, _ => by simp [AV.flat] at hf
  | .ifc .., _, hf, _ => by simp [AV.flat] at hf
theorem flatAll_ok : ∀ (as : List AV) (xs : List Value), AV.flatAll as = true → CR F w B as xs → CR F' w' B' as xs
  | [], xs, _, h => by cases h; exact .nil
  | a :: as, xs, hf, h => by
    simp only [AV.flatAll, Bool.and_eq_true] at hf
    cases h with
    | cons h t => exact .cons (flat_ok a _ hf.1 h) (flatAll_ok as _ hf.2 t)
end

mutual
theorem lend_ok (hm : MR O F w B mem) (hG : ∀ b, F b → G b) (hO : ∀ i b, ownB mem B i = some b → G b) : ∀ (x : AV) (y : Value), VR F w B x y → VR G w B (x.lend mem) y
  | .any, y, h => by simpa only [AV.lend] using up hG h
  | .v v, y, h => by simpa only [AV.lend] using up hG h
  | .fsl sz es, y, h => by simpa only [AV.lend] using up hG h
  | .fptr e k, y, h => by simpa only [AV.lend] using up hG h
  | .win i o n, y, h => by simpa only [AV.lend] using up hG h
  | .agg cs, y, h => by obtain ⟨vs, rfl, hc⟩ := h.of_agg; simp only [AV.lend]; exact .agg (lendAll_ok hm hG hO cs vs hc)
  | .tup cs, y, h => by obtain ⟨vs, rfl, hc⟩ := h.of_tup; simp only [AV.lend]; exact .tup (lendAll_ok hm hG hO cs vs hc)
  | .fn f cs, y, h => by obtain ⟨vs, rfl, hc⟩ := h.of_fn; simp only [AV.lend]; exact .fn (lendAll_ok hm hG hO cs vs hc)
  | .ifc t c, y, h => by obtain ⟨z, rfl, hc⟩ := h.of_ifc; simp only [AV.lend]; exact .ifc (lend_ok hm hG hO c z hc)
  | .osl id, y, h => by
    have := frz_ok hm hG (.osl id) y h (fun i hi b t sz es h1 h2 => hO i b h2)
    unfold AV.frz at this
    unfold AV.lend
    split
    · rename_i t sz es hi; rw [hi] at this; exact this
    · rename_i a hi; rw [hi] at this; exact this
    · exact up hG h
  | .ptr id i o, y, h => by
    unfold AV.lend
    split
    · rename_i cs hi
      split
      · rename_i hc
        obtain ⟨rfl, hb⟩ := hc
        have hlt := (List.getElem?_eq_some_iff.1 hi).1
        obtain ⟨l, hl⟩ : ∃ l, B[id]? = some l := ⟨_, List.getElem?_eq_getElem (by rw [hm.len]; exact hlt)⟩
        have hbr := hm.br id _ l hi hl
        match l, hbr, hl with
        | .var b, ⟨t, xs, h1, h2⟩, hl =>
          cases h with
          | ptrV h =>
            rw [hl] at h; cases h
            have hc2 := frzAll_ok hm hG cs xs h2 (fun i hi b t sz es h1 h2 => hO i b h2)
            have := VR.fptr (F := G) (w := w) (B := B) (e := .agg (AV.frzAll mem cs)) b 0 o (hc2.toBare hb) (hO id b (ownB_mk hi hl rfl rfl)) (fun j y hj => by
              simp only [World.cell?, h1]; simpa using hj)
            simpa using this
          | ptrA h => rw [hl] at h; cases h
          | ptrW h => rw [hl] at h; cases h
      · exact up hG h
    · rename_i t sz es hi
      split
      · rename_i e he
        have hlt := (List.getElem?_eq_some_iff.1 hi).1
        obtain ⟨l, hl⟩ : ∃ l, B[id]? = some l := ⟨_, List.getElem?_eq_getElem (by rw [hm.len]; exact hlt)⟩
        have hbr := hm.br id _ l hi hl
        match l, hbr, hl with
        | .arr sz' g n cap, ⟨q1, q2, q3, q4, xs, q5, q6⟩, hl =>
          subst q1
          cases h with
          | ptrV h => rw [hl] at h; cases h
          | ptrW h => rw [hl] at h; cases h
          | @ptrA _ _ _ _ g' sz'' n' cap' h =>
            rw [hl] at h; cases h
            have hel := q4 e (List.mem_of_getElem? he)
            have hin := (List.getElem?_eq_some_iff.1 he).1
            have hat : ∀ j y, ((xs.drop (i * sz)).take sz)[j]? = some y → w.cell? ⟨g', i * sz + j, none⟩ = some y := by
              intro j y hj
              rw [List.getElem?_take] at hj
              split at hj
              · rw [List.getElem?_drop] at hj
                have := q5.cells (g := g') rfl _ _ hj
                rw [add_plain] at this
                simpa using this
              · cases hj
            have hcr : CR G w [] e.cells ((xs.drop (i * sz)).take sz) := by
              have h1 : CR F w [] (((AV.cellsAll es).drop (i * sz)).take sz) ((xs.drop (i * sz)).take sz) := (q6.drop _).take _
              have h2 : ((AV.cellsAll es).drop (i * sz)).take sz = e.cells := by
                rw [← cellsAll_drop es i q4, List.drop_eq_getElem_cons hin]
                have : es[i] = e := by rw [List.getElem?_eq_getElem hin] at he; exact Option.some.inj he
                rw [this, AV.cellsAll, List.take_left' hel]
              rw [h2] at h1
              exact (h1.mono ⟨hG, fun _ _ h => h, fun _ _ => rfl⟩)
            exact .fptr g' (i * sz) o hcr (hO id g' (ownB_mk hi hl rfl rfl)) hat
      · exact up hG h
    · exact up hG h
theorem lendAll_ok (hm : MR O F w B mem) (hG : ∀ b, F b → G b) (hO : ∀ i b, ownB mem B i = some b → G b) : ∀ (xs : List AV) (ys : List Value), CR F w B xs ys → CR G w B (AV.lendAll mem xs) ys
  | [], ys, h => by cases h; exact .nil
  | x :: xs, ys, h => by
    cases h with
    | cons h t => exact .cons (lend_ok hm hG hO x _ h) (lendAll_ok hm hG hO xs _ t)
end
end

def borrowO (mem : List Blk) : Option (Res × List Blk) → Option (Res × List Blk)
  | some (.ret r, []) => if r.flat = true then some (.ret r, mem) else none
  | _ => none
/-- The contract of one who only looks, for what is the caller's own. -/
def borrow (sp : Spec) : Spec := fun args mem => if AV.isBareAll (AV.lendAll mem args) = true then borrowO mem (sp (AV.lendAll mem args) []) else none

theorem CallOk.borrow {P : Program} {f : FuncId} {sp : Spec} (he : Enters P f) (h : CallOk P f sp) : CallOk P f (borrow sp) := by
  refine .inl ⟨he, ?_⟩
  intro args mem r mem1 hsp O F B w vs hO hm ha
  unfold Am.borrow at hsp
  obtain ⟨hb, hsp⟩ := if_some hsp
  unfold borrowO at hsp
  split at hsp
  case h_2 => cases hsp
  rename_i r0 hr0
  obtain ⟨hfl, hsp⟩ := if_some hsp
  cases hsp
  have hG : ∀ b, (F b ∨ ∃ i, ownB mem B i = some b) → b < w.heap.size := fun b hb => hm.old hb
  have hlend := (lendAll_ok (G := fun b => F b ∨ ∃ i, ownB mem B i = some b) hm (fun b h => .inl h) (fun i b h => .inr ⟨i, h⟩) args vs ha).toBare hb
  have hm0 : MR (fun b => w.heap.size ≤ b) (fun b => F b ∨ ∃ i, ownB mem B i = some b) w [] [] := by
    refine ⟨rfl, fun i b l h => by simp at h, fun i j b h => ?_, fun i b h => ?_, hG, hm.gl.same fun _ h => .inl h⟩
    · obtain ⟨_, _, h1, _⟩ := ownB_some h; simp at h1
    · obtain ⟨_, _, h1, _⟩ := ownB_some h; simp at h1
  rcases h with ⟨_, h⟩ | h | h
  · refine (h _ [] _ [] hr0 (fun b => w.heap.size ≤ b) _ [] w vs (fun b hb => hb) hm0 hlend).mono ?_
    rintro e w' ⟨F', B', _, _, hev, _, hr⟩
    have keep : ∀ b, (F b ∨ ∃ i, ownB mem B i = some b) → w'.heap[b]? = w.heap[b]? := fun b hb => hev.block b (hG b hb) (by have := hG b hb; omega)
    refine ⟨F, B, hm.go hev.size keep, ⟨fun _ h => h, fun _ _ h => h, fun b hb => keep b (.inl hb)⟩, ⟨hev.os, hev.tape, hev.output, hev.size, fun k hk _ => hev.block k hk (by omega)⟩, fun _ h => .inl h, ?_⟩
    cases e with
    | returned y => simp only [RelRes] at hr ⊢; exact flat_ok r0 y hfl hr
    | panicked ch => exact hr.elim
    | outgrown => exact hr.elim
  · obtain ⟨_, _, v, hv, hx⟩ := h _ [] _ [] hr0
    obtain ⟨y, hy, _⟩ := hx _ w vs hlend
    rw [enters_run he] at hy
    cases hy
  · obtain ⟨_, v, hv, hx⟩ := h _ [] _ [] hr0
    obtain ⟨y, hy, _⟩ := hx _ _ [] w vs hm0 hlend
    rw [enters_run he] at hy
    cases hy

theorem borrowO_ret (mem : List Blk) (r : AV) : borrowO mem (some (.ret r, [])) = if r.flat = true then some (.ret r, mem) else none := rfl
theorem borrowO_none (mem : List Blk) : borrowO mem none = none := rfl
theorem borrowO_if (mem : List Blk) (c : Prop) [Decidable c] (x : Option (Res × List Blk)) : borrowO mem (if c then x else none) = if c then borrowO mem x else none := by split <;> rfl
theorem borrowO_cond (mem : List Blk) (b : Bool) (x y : Option (Res × List Blk)) : borrowO mem (bif b then x else y) = bif b then borrowO mem x else borrowO mem y := by cases b <;> rfl
attribute [simp] borrow borrowO_ret borrowO_none borrowO_if borrowO_cond AV.flat AV.flatAll AV.lend AV.lendAll

/-! ### Empty slices in what is handed -/
inductive Fx where
  | no
  | k (n : Nat)
  | agg (l : List Fx)
mutual
def fxA : Fx → AV → AV
  | .no, a => a
  | .k n, a => fix1 n a
  | .agg fs, .agg cs => .agg (fxL fs cs)
  | .agg _, a => a
def fxL : List Fx → List AV → List AV
  | f :: fs, a :: as => fxA f a :: fxL fs as
  | _, as => as
end
mutual
theorem fxA_ok {F : Nat → Prop} {w : World} {B : List Loc} : ∀ (f : Fx) {a : AV} {x : Value}, VR F w B a x → VR F w B (fxA f a) x
  | .no, a, x, h => by unfold fxA; exact h
  | .k n, a, x, h => by unfold fxA; exact fix1_ok h
  | .agg fs, a, x, h => by
    cases a with
    | agg cs => obtain ⟨vs, rfl, hc⟩ := h.of_agg; unfold fxA; exact .agg (fxL_ok fs hc)
    | _ => simpa [fxA] using h
theorem fxL_ok {F : Nat → Prop} {w : World} {B : List Loc} : ∀ (fs : List Fx) {as : List AV} {xs : List Value}, CR F w B as xs → CR F w B (fxL fs as) xs
  | [], as, xs, h => by unfold fxL; exact h
  | f :: fs, [], xs, h => by unfold fxL; exact h
  | f :: fs, a :: as, xs, h => by
    cases h with
    | cons h t => unfold fxL; exact .cons (fxA_ok f h) (fxL_ok fs t)
end
def fixD (fs : List Fx) (sp : Spec) : Spec := fun args mem => sp (fxL fs args) mem
theorem CallOk.fixD {P : Program} {f : FuncId} {sp : Spec} (fs : List Fx) (h : CallOk P f sp) : CallOk P f (fixD fs sp) := by
  rcases h with ⟨h1, h2⟩ | h | h
  · refine .inl ⟨h1, ?_⟩
    intro args mem r mem1 hsp O F B w vs hO hm ha
    exact h2 (fxL fs args) mem r mem1 hsp O F B w vs hO hm (fxL_ok fs ha)
  · refine .inr (.inl ?_)
    intro args mem r mem1 hsp
    obtain ⟨e1, e2, v, e3, e4⟩ := h (fxL fs args) mem r mem1 hsp
    exact ⟨e1, e2, v, e3, fun F w vs hc => e4 F w vs (fxL_ok fs hc)⟩
  · refine .inr (.inr ?_)
    intro args mem r mem1 hsp
    obtain ⟨e1, v, e3, e4⟩ := h (fxL fs args) mem r mem1 hsp
    exact ⟨e1, v, e3, fun O F B w vs hm hc => e4 O F B w vs hm (fxL_ok fs hc)⟩
attribute [simp] fixD fxA fxL

/-! ### Notes -/
section
variable {Γ : Env} {N : Nat} {Q : Post} {ts : Tm} {m : List Blk} {d : Nat} {b : ACode}
theorem wp_conc_out {a : ACode} (h : wpA Γ N (.conc d (.seq a b)) Q ts m) : wpA Γ N (.seq (.conc d a) b) Q ts m := h
theorem wp_open_out {a : ACode} (h : wpA Γ N (.open_ d (.seq a b)) Q ts m) : wpA Γ N (.seq (.open_ d a) b) Q ts m := h
theorem wp_pack_out {ks : List Nat} {a : ACode} (h : wpA Γ N (.pack ks (.seq a b)) Q ts m) : wpA Γ N (.seq (.pack ks a) b) Q ts m := h
theorem wp_conc_nil {sz : Nat} (h : tget ts d = .fsl sz []) (k : ∀ (base : Option Addr) (cap : Nat), wpA Γ N b Q (tput (tkill [d] ts) (some d) (.v (.slice base 0 cap))) m) : wpA Γ N (.conc d b) Q ts m := by
  show concA d ts fun ts => wpA Γ N b Q ts m
  unfold concA; rw [h]; exact k
theorem wp_conc_cons {sz : Nat} {e : AV} {es : List AV} (h : tget ts d = .fsl sz (e :: es)) (k : wpA Γ N b Q ts m) : wpA Γ N (.conc d b) Q ts m := by
  show concA d ts fun ts => wpA Γ N b Q ts m
  unfold concA; rw [h]; exact k
theorem wp_open_at {id t sz : Nat} {es : List AV} (h : tget ts d = .osl id) (hi : m[id]? = some (.arr t sz es))
    (h1 : ∀ k : Nat, es.length + k ≤ maxLen → wpA Γ N b Q (tput (tkill [d] ts) (some d) (.win id 0 es.length)) (m.set id (.buf t sz (es ++ List.replicate k (.agg (List.replicate sz .any))))))
    (h2 : es = [] → wpA Γ N b Q (tput (tkill [d] ts) (some d) (.v (.slice none 0 0))) (m.set id .gone)) : wpA Γ N (.open_ d b) Q ts m := by
  show openA d ts m fun ts m => wpA Γ N b Q ts m
  unfold openA; rw [h]; simp only [hi]; exact ⟨h1, h2⟩
end

/-! ### A bool that comes back -/
theorem post_bool {rs : List ARes} {x y : Bool} {ts : Tm} {m : List Blk} (h1 : Am.resAll ts m rs = some [.v (.bool x)]) (h : x = y) : finQ 0 rs (.ret (.v (.bool y))) [] .ret ts m := by
  subst h; exact post_fin h1 rfl ⟨[], [], rfl, rfl, rfl, rfl⟩
end Go.Proofs.YtajpaagbfmjacaaGreatDoor.Am
