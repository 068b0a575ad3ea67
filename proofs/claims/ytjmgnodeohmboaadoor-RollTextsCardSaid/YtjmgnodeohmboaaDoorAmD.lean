/-
  THE ABSTRACT MACHINE, FOURTEENTH PART: a function's contract out of its body. No program is named here.
-/
import Derived.Test.YtjmgnodeohmboaaDoorAmC
namespace Go.Proofs.YtjmgnodeohmboaaDoor.Am
set_option linter.unusedSimpArgs false
set_option linter.unusedVariables false
open Go

inductive ARes where
  | tmp (t : Nat)
  | cell (t : Nat) (g : Bool) (n : Nat)

def compRes (P : Program) : ResultVar → Option ARes
  | .tmp t => some (.tmp t)
  | .cell t ty => (kOf P ty).map fun k => .cell t k.1 k.2

def res1 (ts : Tm) (mem : List Blk) : ARes → Option AV
  | .tmp t => some (tget ts t)
  | .cell t g n => (cellsAt mem n (tget ts t)).bind (mk g)

def resAll (ts : Tm) (mem : List Blk) : List ARes → Option (List AV)
  | [] => some []
  | r :: rs => match res1 ts mem r, resAll ts mem rs with
    | some v, some vs => some (v :: vs)
    | _, _ => none

def oneOr : List AV → AV
  | [v] => v
  | vs => .tup vs

/-- What goes to the caller: some slices are given away, some blocks go along, numbered anew. -/
def finV (N : Nat) (m : List Blk) (v v1 : AV) (mem1 : List Blk) : Prop :=
  ∃ fz ids : List Nat, subOk ids (freezeIds fz m) (v.res (freezeIds fz m)).ids = true ∧ ids.take N = List.range N ∧ v1 = (v.res (freezeIds fz m)).mapId (idx ids) ∧ mem1 = subM ids (freezeIds fz m)

/-- Blocks of which nothing is told any more. -/
def forgetM : List Nat → List Blk → List Blk
  | [], m => m
  | i :: is, m => forgetM is (m.set i .gone)

theorem MR.forgets {O F : Nat → Prop} {w : World} {B : List Loc} : ∀ (is : List Nat) {m : List Blk}, MR O F w B m → MR O F w B (forgetM is m)
  | [], _, h => h
  | i :: is, _, h => MR.forgets is (h.forget i)

mutual
/-- The same, but for how an empty slice is told. -/
inductive Same : AV → AV → Prop
  | rfl (a : AV) : Same a a
  | nil (i j : Nat) : Same (.fsl i []) (.fsl j [])
  | tup {as bs : List AV} (h : SameL as bs) : Same (.tup as) (.tup bs)
  | agg {as bs : List AV} (h : SameL as bs) : Same (.agg as) (.agg bs)
inductive SameL : List AV → List AV → Prop
  | nil : SameL [] []
  | cons {a b : AV} {as bs : List AV} (h : Same a b) (t : SameL as bs) : SameL (a :: as) (b :: bs)
end

mutual
theorem Same.ok {F : Nat → Prop} {w : World} {B : List Loc} : ∀ {a b : AV} {x : Value}, Same a b → VR F w B a x → VR F w B b x
  | _, _, _, .rfl _, hv => hv
  | _, _, _, .nil i j, hv => by
    cases hv with
    | fslNil base cap => exact .fslNil base cap
    | fsl b o cap h hs hF hx hcap => exact .fslNil _ cap
  | _, _, _, .tup h, hv => by
    cases hv with
    | tup hc => exact .tup (SameL.ok h hc)
  | _, _, _, .agg h, hv => by
    cases hv with
    | agg hc => exact .agg (SameL.ok h hc)
theorem SameL.ok {F : Nat → Prop} {w : World} {B : List Loc} : ∀ {as bs : List AV} {xs : List Value}, SameL as bs → CR F w B as xs → CR F w B bs xs
  | _, _, _, .nil, hv => hv
  | _, _, _, .cons h t, hv => by
    cases hv with
    | cons h1 t1 => exact .cons (Same.ok h h1) (SameL.ok t t1)
end

def finQ (N : Nat) (rs : List ARes) (r : Res) (mem1 : List Blk) : Post
  | .normal, ts, m | .ret, ts, m => match r with
    | .ret v1 => ∃ vs v2, resAll ts m rs = some vs ∧ finV N m (oneOr vs) v2 mem1 ∧ Same v2 v1
    | .pan _ => False
  | .pan v, _, m => match r with
    | .pan v1 => ∃ fg m2, finV N m v v1 m2 ∧ mem1 = forgetM fg m2
    | .ret _ => False
  | .exit _, _, _ => False

/-- The arguments in their slots. -/
def entry : Nat → List AV → Tm
  | _, [] => []
  | n, a :: as => (n, a) :: entry (n + 1) as

section
variable {P : Program} {O F0 F : Nat → Prop} {w0 w w' : World} {B0 B : List Loc} {ts : Tm} {mem mem' : List Blk} {a : Act} {o : Oper}

/-- What goes to the caller. -/
theorem fin_ok {N : Nat} {v v1 : AV} {mem1 : List Blk} {x : Value} (h : finV N mem v v1 mem1) (hN : B0.length = N) (hB : ∀ (i : Nat) (l : Loc), B0[i]? = some l → B[i]? = some l) (hm : MR O F w B mem) (hv : VR F w B v x) :
    ∃ (G : Nat → Prop) (B1 : List Loc), MR O G w B1 mem1 ∧ VR G w B1 v1 x ∧ (∀ b, F b → G b) ∧ (∀ b, G b → F b ∨ O b) ∧ ∀ (i : Nat) (l : Loc), B0[i]? = some l → B1[i]? = some l := by
  obtain ⟨fz, ids, hsub, hpin, rfl, rfl⟩ := h
  obtain ⟨G, m1, hFG, hGO, _⟩ := MR.freezes fz hm
  obtain ⟨q1, q2, q3, q4⟩ := subOk_spec hsub
  refine ⟨G, subB ids B, m1.sub hsub (fun i _ b hb => (m1.own i b hb).1), ?_, hFG, hGO, fun i l hl => ?_⟩
  · exact mapId_ok _ _ (res_ok m1 v x (up hFG hv)) (fun i hi l hl => subB_idx (q3 i hi) hl)
  · have hi : i < N := by rw [← hN]; exact (List.getElem?_eq_some_iff.1 hl).1
    have hidi : ids[i]? = some i := by
      have := congrArg (·[i]?) hpin
      simp only [List.getElem?_take, hi, if_true] at this
      rw [this]; simp [hi]
    have := hB i l hl
    simp [subB, hidi, List.getD_eq_getElem?_getD, this]

def resV (tm : Array Value) : ResultVar → Sem Value
  | .tmp t => pure (tm.getD t undef)
  | .cell ad t => do loadVar t (← asAddr (tm.getD ad undef))

theorem results_eq (fn : Func) (tm : Array Value) : results fn tm = (do
    let vs ← fn.results.mapM (resV tm)
    pure (if h : vs.size = 1 then vs[0] else .tuple vs)) := by
  unfold results
  congr 1

theorem results_run {fn : Func} {rs : List ARes} {vs : List AV} (hr : fn.results.toList.mapM (compRes P) = some rs) (hv : resAll ts mem rs = some vs) (hm : MR O F w B mem) (ht : TR F w B (tget ts) a) :
    ∃ x, (results fn a.tmps).run P w = .ok x w ∧ VR F w B (oneOr vs) x := by
  have one : ∀ (rv : ResultVar) (r : ARes) (v : AV), compRes P rv = some r → res1 ts mem r = some v →
      ∃ x, (resV a.tmps rv).run P w = .ok x w ∧ VR F w B v x := by
    intro rv r v h1 h2
    cases rv with
    | tmp t =>
      simp [compRes] at h1; subst h1
      simp [res1] at h2; subst h2
      exact ⟨a.tmps.getD t undef, by simp [resV], opd_ok ht (.tmp t)⟩
    | cell ad t =>
      simp only [compRes, Option.map_eq_some_iff] at h1
      obtain ⟨k, hk, rfl⟩ := h1
      simp only [res1] at h2
      cases hc : cellsAt mem k.2 (tget ts ad) with
      | none => rw [hc] at h2; cases h2
      | some cs =>
        rw [hc] at h2
        simp only [Option.bind_some] at h2
        obtain ⟨b, of, xs, hx, hl, hcr, hcell⟩ := cellsAt_ok hc hm (opd_ok ht (.tmp ad))
        simp only [Act.eval] at hx
        obtain ⟨r1, r2⟩ := run_agg (P := P) (w := w) hk
        have hxl : xs.length = k.2 := by rw [hcr.length, hl]
        have hload := run_loadCells_list (P := P) w ⟨b, of, none⟩ xs (fun j y hj => by rw [add_plain]; exact hcell j y hj)
        rw [hxl] at hload
        rcases mk_some h2 with ⟨hg, rfl⟩ | ⟨hg, rfl⟩
        · refine ⟨.agg xs.toArray, ?_, .agg hcr⟩
          simp only [resV, hx, asAddr, loadVar, Sem.run_bind, Sem.run_pure, Result.andThen_ok, r1, hg, if_true, r2, hload]
        · obtain ⟨y, rfl, hy⟩ := hcr.of_one
          refine ⟨y, ?_, hy⟩
          have h0 := hcell 0 y rfl
          simp only [Nat.add_zero] at h0
          simp only [resV, hx, asAddr, loadVar, Sem.run_bind, Sem.run_pure, Result.andThen_ok, r1, hg, Bool.false_eq_true, if_false, run_load, h0]
  have many : ∀ (rvs : List ResultVar) (rs : List ARes) (vs : List AV), rvs.mapM (compRes P) = some rs → resAll ts mem rs = some vs →
      ∃ xs : List Value, (rvs.mapM (resV a.tmps)).run P w = .ok xs w ∧ CR F w B vs xs := by
    intro rvs
    induction rvs with
    | nil => intro rs vs h1 h2; simp at h1; subst h1; simp [resAll] at h2; subst h2; exact ⟨[], by simp, .nil⟩
    | cons rv rvs ih =>
      intro rs vs h1 h2
      simp only [List.mapM_cons] at h1
      cases q1 : compRes P rv with
      | none => simp [q1] at h1
      | some r =>
        cases q2 : rvs.mapM (compRes P) with
        | none => simp [q1, q2] at h1
        | some rs' =>
          simp [q1, q2] at h1; subst h1
          simp only [resAll] at h2
          split at h2
          · rename_i v vs' q3 q4
            cases h2
            obtain ⟨x, e1, e2⟩ := one rv r v q1 q3
            obtain ⟨xs, e3, e4⟩ := ih rs' vs' q2 q4
            refine ⟨x :: xs, ?_, .cons e2 e4⟩
            simp only [List.mapM_cons, Sem.run_bind]
            rw [e1]
            simp only [Result.andThen_ok, e3, Sem.run_pure]
          · cases h2
  obtain ⟨xs, e1, e2⟩ := many fn.results.toList rs vs hr hv
  have hmap : (fn.results.mapM (resV a.tmps)).run P w = .ok xs.toArray w := by
    have := List.mapM_toArray (l := fn.results.toList) (f := resV a.tmps)
    rw [Array.toArray_toList] at this
    rw [this]
    simp only [Sem.run_map, e1, Result.andThen_ok]
  have hres : (results fn a.tmps).run P w = .ok (if h : xs.toArray.size = 1 then xs.toArray[0] else .tuple xs.toArray) w := by
    rw [results_eq]
    simp only [Sem.run_bind, hmap, Result.andThen_ok, Sem.run_pure]
  refine ⟨_, hres, ?_⟩
  cases e2 with
  | nil => exact .tup .nil
  | cons h t =>
    cases t with
    | nil => exact h
    | cons h2 t2 => exact .tup (.cons h (.cons h2 t2))

theorem entry_ok {F : Nat → Prop} : ∀ (args : List AV) (vs : List Value) (n : Nat) (tm : Array Value), CR F w B args vs → (∀ (i : Nat) (x : Value), vs[i]? = some x → tm[n + i]? = some x) → ∀ k, VR F w B (tget (entry n args) k) (tm.getD k undef)
  | [], vs, n, tm, hc, ht, k => .any _
  | v :: args, vs, n, tm, hc, ht, k => by
    cases hc with
    | @cons _ _ x _ xs h t =>
      simp only [entry, tget]
      split
      · rename_i hk
        subst hk
        have := ht 0 x rfl
        rw [Nat.add_zero] at this
        rw [Array.getD_eq_getD_getElem?, this]
        exact h
      · exact entry_ok args xs (n + 1) tm t (fun i y hi => by have := ht (i + 1) y (by simpa using hi); rw [← this]; congr 1; omega) k

/-- A CONTRACT OUT OF A BODY. -/
theorem ok_of_body {Γ : Env} (hΓ : EnvOk P Γ) (hmix : P.follows .mixedOrders = true) {f : FuncId} {fn : Func} {c : Code} {ac : ACode} {rs : List ARes} (hf : P.funcs[f]? = some fn) (hb : fn.body = some c) (hc : compCode P c = some ac.plain) (hfine : Fine ⟨fn.ntmps, []⟩ ac)
    (hr : fn.results.toList.mapM (compRes P) = some rs) (hname : (fn.name == "runtime.NumGoroutine") = false) (sp : Spec)
    (h : ∀ args mem r mem1, sp args mem = some (r, mem1) → wpA Γ mem.length ac (finQ mem.length rs r mem1) (entry 0 args) mem) : CallOk P f sp := by
  refine .inl ⟨⟨fn, hf, by simp [hb], hname⟩, ?_⟩
  intro args mem r mem1 hsp O F B w vs hO hm ha
  have hwp := h args mem r mem1 hsp
  have habs : Abs ⟨⟨fn.ntmps, []⟩, [], fun _ => undef⟩ O F w B (entry 0 args) mem { tmps := vs.toArray ++ Array.replicate (fn.ntmps - vs.toArray.size) undef, defers := [] } w := by
    refine ⟨⟨rfl, fun _ h => by cases h⟩, by simp; omega, F, B, hm, ?_, .refl F w B, .refl O w, fun _ h => .inl h⟩
    refine entry_ok args vs 0 _ ha (fun i x hi => ?_)
    have := (List.getElem?_eq_some_iff.1 hi).1
    rw [Nat.zero_add, Array.getElem?_append_left (by simpa using this)]
    simpa using hi
  refine calls_of_wp hf hb (wp_mono (code_sound hΓ hmix hm.len hO ac c _ _ _ _ w hc hfine.1 (pairs_eq hfine.2) hwp habs) ?_)
  have fin : ∀ (v v1 : AV) (m m2 : List Blk) (x : Value) (w' : World) (F' : Nat → Prop) (B' : List Loc), finV mem.length m v v1 m2 → MR O F' w' B' m → VR F' w' B' v x → Ext F F' w w' B B' → Ev O w w' → (∀ b, F' b → F b ∨ O b) →
      ∃ (G : Nat → Prop) (B1 : List Loc), MR O G w' B1 m2 ∧ Ext F G w w' B B1 ∧ Ev O w w' ∧ (∀ b, G b → F b ∨ O b) ∧ VR G w' B1 v1 x := by
    intro v v1 m m2 x w' F' B' h1 h2 h3 h4 h5 h6
    obtain ⟨G, B1, g1, g2, g3, g4, g5⟩ := fin_ok h1 hm.len h4.pl h2 h3
    refine ⟨G, B1, g1, ⟨fun b hb => g3 b (h4.fr b hb), g5, h4.hp⟩, h5, fun b hb => ?_, g2⟩
    rcases g4 b hb with hb | hb
    · exact h6 b hb
    · exact .inr hb
  have norm : ∀ (ts : Tm) (m : List Blk) (a' : Act) (w' : World), finQ mem.length rs r mem1 .ret ts m → Abs ⟨⟨fn.ntmps, []⟩, [], fun _ => undef⟩ O F w B ts m a' w' →
      a'.defers = [] ∧ ∃ v, (results fn a'.tmps).run P w' = .ok v w' ∧ ∃ (F' : Nat → Prop) (B' : List Loc), MR O F' w' B' mem1 ∧ Ext F F' w w' B B' ∧ Ev O w w' ∧ (∀ b, F' b → F b ∨ O b) ∧ RelRes F' w' B' r (.returned v) := by
    intro ts m a' w' hq hab
    obtain ⟨⟨hd, _⟩, _, F', B', k1, k2, k3, k4, k5⟩ := hab
    cases r with
    | pan _ => exact hq.elim
    | ret v1 =>
      obtain ⟨vs', v2, h1, h2, hsame⟩ := hq
      obtain ⟨x, h3, h4⟩ := results_run (P := P) hr h1 k1 k2
      obtain ⟨G, B1, g1, g2, g3, g4, g5⟩ := fin _ _ m mem1 x w' F' B' h2 k1 h4 k3 k4 k5
      exact ⟨hd, x, h3, G, B1, g1, g2, g3, g4, hsame.ok g5⟩
  intro e a' w' he
  cases e with
  | normal => obtain ⟨ts, m, h1, h2⟩ := he; exact norm ts m a' w' h1 h2
  | ret => obtain ⟨ts, m, h1, h2⟩ := he; exact norm ts m a' w' h1 h2
  | panic ch =>
    obtain ⟨v, m, x, h1, h2, ⟨hd, _⟩, F', B', k1, k2, k3, k4, k5⟩ := he
    subst h2
    cases r with
    | ret _ => exact h1.elim
    | pan v1 =>
      obtain ⟨fg, m2, h1, rfl⟩ := h1
      obtain ⟨G, B1, g1, g2, g3, g4, g5⟩ := fin _ _ m m2 x w' F' B' h1 k1 k2 k3 k4 k5
      exact ⟨hd, G, B1, g1.forgets fg, g2, g3, g4, x, rfl, g5⟩
  | exit id => obtain ⟨ts, m, h1, h2⟩ := he; exact h1.elim
  | goto l => exact he.elim
  | outgrown => exact he.elim

end
end Go.Proofs.YtjmgnodeohmboaaDoor.Am
