/-
  THE ABSTRACT MACHINE, NINTH PART: the last operations, and all of them in one word. No program is named here.
-/
import Derived.Test.YtjmgnodeohmboaaDoorAm7
namespace Go.Proofs.YtjmgnodeohmboaaDoor.Am
set_option linter.unusedSimpArgs false
set_option linter.unusedVariables false
open Go
section
variable {P : Program} {O F F' : Nat → Prop} {w w' : World} {B B' : List Loc} {ts : Nat → AV} {mem mem' : List Blk} {a : Act} {o : Oper}

theorem agg_of {t : TypeId} (h : aggOf P t = true) : (∃ fs, P.underlying t = some (.struct fs)) ∨ (∃ n e, P.underlying t = some (.array n e)) := by
  unfold aggOf at h
  split at h
  · exact .inl ⟨_, ‹_›⟩
  · exact .inr ⟨_, _, ‹_›⟩
  · cases h

theorem go_eqs (neg : Bool) (t : TypeId) (x y : Operand) (yt : TypeId) (ks : List EK) (cs ds : List AV) (r : Bool) (ho : o.op = .binOp (if neg then .neq else .eql) t x y yt) (hk : flatK P 6 t = some ks) (ha : aggOf P t = true)
    (hgd : P.eqGuardType P.depth t = false) (hx : (compOpd x).ev ts = .agg cs) (hy : (compOpd y).ev ts = .agg ds) (hl1 : ks.length = cs.length) (hl2 : ks.length = ds.length) (he : eqCells ks cs ds = some r)
    (hm : MR O F w B mem) (ht : TR F w B ts a) : Goes P O F w B o a (.ret (.v (.bool (if neg then !r else r)))) mem := by
  have h1 := opd_ok ht x
  rw [hx] at h1
  obtain ⟨xs, ex, hc⟩ := h1.of_agg
  have h2 := opd_ok ht y
  rw [hy] at h2
  obtain ⟨ys, ey, hd⟩ := h2.of_agg
  refine .pure (x := .bool (if neg then !r else r)) ?_ hm (.v _)
  have hq := eq_flat (w := w) 6 9994 t ks hk cs ds xs ys r hc hd hl1 hl2 he (.agg xs.toArray) (.agg ys.toArray) (by simp [valOf, ha]) (by simp [valOf, ha])
  have hg : ∀ op, (eqGuard op t x y (.agg xs.toArray) (.agg ys.toArray)).run P w = .ok () w := fun op => run_eqGuard_agg w op t x y _ _ hgd
  cases neg with
  | false =>
    simp only [execOp, ho, ex, ey, Bool.false_eq_true, if_false, Sem.run_bind, hg, Result.andThen_ok, run_eql_struct]
    rw [show (10000 : Nat) = 9994 + 6 from rfl, hq]; rfl
  | true =>
    simp only [execOp, ho, ex, ey, if_true, Sem.run_bind, hg, Result.andThen_ok, run_neq_struct]
    rw [show (10000 : Nat) = 9994 + 6 from rfl, hq]; rfl

theorem eqCells_len : ∀ (ks : List EK) (cs ds : List AV) (r : Bool), eqCells ks cs ds = some r → ks.length = cs.length ∧ ks.length = ds.length
  | [], [], [], _, _ => ⟨rfl, rfl⟩
  | ks, cs, ds, r, h => by
    unfold eqCells at h
    split at h
    · exact ⟨rfl, rfl⟩
    · split at h
      · rename_i ks _ _ c _ _ d _
        cases hr : eqCells ks c d with
        | none => simp [hr] at h
        | some r' => obtain ⟨h1, h2⟩ := eqCells_len ks c d r' hr; simp [h1, h2]; omega
      · cases h
    · rename_i ks _ c _ d
      cases hr : eqCells ks c d with
      | none => simp [hr] at h
      | some r' => obtain ⟨h1, h2⟩ := eqCells_len ks c d r' hr; simp [h1, h2]; omega
    · rename_i ks _ c _ d
      cases hr : eqCells ks c d with
      | none => simp [hr] at h
      | some r' => obtain ⟨h1, h2⟩ := eqCells_len ks c d r' hr; simp [h1, h2]; omega
    · cases h

theorem min_run : ∀ (xs : List AV) (c r : AV) (ys : List Value) (y : Value), minI c xs = some r → CR F w B xs ys → VR F w B c y → (∃ k n, c = .v (.int k n)) → ∃ z, (ys.foldlM Builtin.min2 y).run P w = .ok z w ∧ VR F w B r z
  | [], c, r, ys, y, h, hc, hv, _ => by cases hc; simp [minI] at h; subst h; exact ⟨y, by simp, hv⟩
  | x :: xs, c, r, ys, y, h, hc, hv, ⟨k, n, e⟩ => by
    subst e
    cases hc with
    | cons h1 t =>
      unfold minI at h
      split at h
      · rename_i heq; cases heq
      · rename_i k' a' b' rr heq1 heq2
        cases heq1; cases heq2
        have e1 := h1.of_v
        have e2 := hv.of_v
        subst e1; subst e2
        obtain ⟨z, hz, hvz⟩ := min_run xs _ r _ (.int k (if b' < n then b' else n)) h t (.v _) ⟨_, _, rfl⟩
        exact ⟨z, by simp only [List.foldlM_cons, Sem.run_bind, Builtin.min2, Sem.run_pure, Result.andThen_ok]; exact hz, hvz⟩
      · cases h

theorem max_run : ∀ (xs : List AV) (c r : AV) (ys : List Value) (y : Value), maxI c xs = some r → CR F w B xs ys → VR F w B c y → (∃ k n, c = .v (.int k n)) → ∃ z, (ys.foldlM Builtin.max2 y).run P w = .ok z w ∧ VR F w B r z
  | [], c, r, ys, y, h, hc, hv, _ => by cases hc; simp [maxI] at h; subst h; exact ⟨y, by simp, hv⟩
  | x :: xs, c, r, ys, y, h, hc, hv, ⟨k, n, e⟩ => by
    subst e
    cases hc with
    | cons h1 t =>
      unfold maxI at h
      split at h
      · rename_i heq; cases heq
      · rename_i k' a' b' rr heq1 heq2
        cases heq1; cases heq2
        have e1 := h1.of_v
        have e2 := hv.of_v
        subst e1; subst e2
        obtain ⟨z, hz, hvz⟩ := max_run xs _ r _ (.int k (if n < b' then b' else n)) h t (.v _) ⟨_, _, rfl⟩
        exact ⟨z, by simp only [List.foldlM_cons, Sem.run_bind, Builtin.max2, Sem.run_pure, Result.andThen_ok]; exact hz, hvz⟩
      · cases h

theorem minI_int {c r : AV} {xs : List AV} (h : minI c xs = some r) : xs = [] ∨ ∃ k n, c = .v (.int k n) := by
  unfold minI at h
  split at h
  · exact .inl rfl
  · exact .inr ⟨_, _, rfl⟩
  · cases h
theorem maxI_int {c r : AV} {xs : List AV} (h : maxI c xs = some r) : xs = [] ∨ ∃ k n, c = .v (.int k n) := by
  unfold maxI at h
  split at h
  · exact .inl rfl
  · exact .inr ⟨_, _, rfl⟩
  · cases h

theorem go_mnn (xs : Array Operand) (ats : Array TypeId) (y : AV) (r : List AV) (v : AV) (ho : o.op = .call { callee := .builtin .min, args := xs, argTypes := ats }) (hx : xs.toList.map (fun x => (compOpd x).ev ts) = y :: r) (hv : minI y r = some v)
    (hm : MR O F w B mem) (ht : TR F w B ts a) : Goes P O F w B o a (.ret v) mem := by
  have hc := mapCR ht xs.toList
  rw [hx] at hc
  cases hl : xs.toList.map a.eval with
  | nil => rw [hl] at hc; cases hc
  | cons z zs =>
    rw [hl] at hc
    cases hc with
    | cons h1 t =>
      have hargs : (xs.map a.eval).toList = z :: zs := by rw [← hl]; simp
      have hrun : ∃ q, (zs.foldlM Builtin.min2 z).run P w = .ok q w ∧ VR F w B v q := by
        rcases minI_int hv with rfl | ⟨k, n, e⟩
        · cases t; simp [minI] at hv; subst hv; exact ⟨z, by simp, h1⟩
        · exact min_run r y v zs z hv t h1 ⟨k, n, e⟩
      obtain ⟨q, hq, hvq⟩ := hrun
      refine .pure (x := q) ?_ hm hvq
      simp only [execOp, ho, resolve, invoke, builtin, Builtin.min_, Sem.run_bind, Sem.run_pure, Result.andThen_ok]
      rw [hargs]
      simp only [hq, Result.andThen_ok]

theorem go_mxx (xs : Array Operand) (ats : Array TypeId) (y : AV) (r : List AV) (v : AV) (ho : o.op = .call { callee := .builtin .max, args := xs, argTypes := ats }) (hx : xs.toList.map (fun x => (compOpd x).ev ts) = y :: r) (hv : maxI y r = some v)
    (hm : MR O F w B mem) (ht : TR F w B ts a) : Goes P O F w B o a (.ret v) mem := by
  have hc := mapCR ht xs.toList
  rw [hx] at hc
  cases hl : xs.toList.map a.eval with
  | nil => rw [hl] at hc; cases hc
  | cons z zs =>
    rw [hl] at hc
    cases hc with
    | cons h1 t =>
      have hargs : (xs.map a.eval).toList = z :: zs := by rw [← hl]; simp
      have hrun : ∃ q, (zs.foldlM Builtin.max2 z).run P w = .ok q w ∧ VR F w B v q := by
        rcases maxI_int hv with rfl | ⟨k, n, e⟩
        · cases t; simp [maxI] at hv; subst hv; exact ⟨z, by simp, h1⟩
        · exact max_run r y v zs z hv t h1 ⟨k, n, e⟩
      obtain ⟨q, hq, hvq⟩ := hrun
      refine .pure (x := q) ?_ hm hvq
      simp only [execOp, ho, resolve, invoke, builtin, Builtin.max_, Sem.run_bind, Sem.run_pure, Result.andThen_ok]
      rw [hargs]
      simp only [hq, Result.andThen_ok]

/-! ### Slices of slices and texts -/
theorem bound_run {x : Option Operand} {d n y : Nat} {code : BoundsCode} (ht : TR F w B ts a) (h : boundOf ts d (x.map compOpd) = some n) (hx : x ≠ none) (hle : n ≤ y) :
    ∃ v, x.map a.eval = some v ∧ (Instr.sliceBound v y code).run P w = .ok n w := by
  cases x with
  | none => exact absurd rfl hx
  | some x =>
    simp only [Option.map_some, boundOf] at h
    split at h
    · rename_i k hk
      split at h
      · rename_i h0
        cases h
        obtain ⟨ki, ek⟩ := int_of ht hk
        refine ⟨.int ki k, by simp [ek], ?_⟩
        simp only [Instr.sliceBound, asIntOf, Sem.run_bind, Sem.run_pure, Result.andThen_ok]
        rw [if_pos ⟨h0, by omega⟩]; rfl
      · cases h
    · cases h

theorem bounds_run {lo hi : Option Operand} {isS : Bool} {len cap l h : Nat} (ht : TR F w B ts a) (hl : boundOf ts 0 (lo.map compOpd) = some l) (hh : boundOf ts len (hi.map compOpd) = some h) (h1 : l ≤ h) (h2 : h ≤ len) (h3 : len ≤ cap) :
    (Instr.sliceBounds isS len cap (lo.map a.eval) (hi.map a.eval) none).run P w = .ok (l, h, cap) w := by
  cases hi with
  | none =>
    simp [boundOf] at hh; subst hh
    cases lo with
    | none => simp [boundOf] at hl; subst hl; simp [Instr.sliceBounds]
    | some x =>
      obtain ⟨v, e, r⟩ := bound_run (P := P) (w := w) (code := .sliceB) (y := len) ht hl (by simp) h1
      simp only [e]
      simp [Instr.sliceBounds, r]
  | some y =>
    obtain ⟨v2, e2, r2⟩ := bound_run (P := P) (w := w) (code := if isS = true then .sliceAcap else .sliceAlen) (y := cap) ht hh (by simp) (by omega)
    simp only [e2]
    cases lo with
    | none => simp [boundOf] at hl; subst hl; simp [Instr.sliceBounds, r2]
    | some x =>
      obtain ⟨v, e, r⟩ := bound_run (P := P) (w := w) (code := .sliceB) (y := h) ht hl (by simp) h1
      simp only [e]
      simp [Instr.sliceBounds, r, r2]

theorem cellsAll_drop {sz : Nat} : ∀ (es : List AV) (l : Nat), (∀ e ∈ es, e.cells.length = sz) → AV.cellsAll (es.drop l) = (AV.cellsAll es).drop (l * sz)
  | [], l, _ => by simp [AV.cellsAll]
  | e :: es, 0, _ => by simp
  | e :: es, l + 1, hs => by
    simp only [List.drop_succ_cons, AV.cellsAll]
    rw [cellsAll_drop es l (fun e he => hs e (by simp [he])), show (l + 1) * sz = e.cells.length + l * sz by rw [hs e (by simp), Nat.add_mul]; omega, List.drop_length_add_append]
theorem cellsAll_take {sz : Nat} : ∀ (es : List AV) (l : Nat), (∀ e ∈ es, e.cells.length = sz) → AV.cellsAll (es.take l) = (AV.cellsAll es).take (l * sz)
  | [], l, _ => by simp [AV.cellsAll]
  | e :: es, 0, _ => by simp [AV.cellsAll]
  | e :: es, l + 1, hs => by
    simp only [List.take_succ_cons, AV.cellsAll]
    rw [cellsAll_take es l (fun e he => hs e (by simp [he])), show (l + 1) * sz = e.cells.length + l * sz by rw [hs e (by simp), Nat.add_mul]; omega, List.take_length_add_append]

theorem go_slcS (t : TypeId) (x : Operand) (lo hi : Option Operand) (s : ByteArray) (l h : Nat) (ho : o.op = .slice t x lo hi none) (hu : P.underlying t = some .string) (hx : (compOpd x).ev ts = .v (.string s))
    (hl : boundOf ts 0 (lo.map compOpd) = some l) (hh : boundOf ts s.size (hi.map compOpd) = some h) (h1 : l ≤ h) (h2 : h ≤ s.size) (hm : MR O F w B mem) (ht : TR F w B ts a) :
    Goes P O F w B o a (.ret (.v (.string (s.extract l h)))) mem := by
  have hv := opd_ok ht x
  rw [hx] at hv
  have hb := bounds_run (P := P) (isS := false) (cap := s.size) (w := w) ht hl hh h1 h2 (Nat.le_refl _)
  refine .pure (x := .string (s.extract l h)) ?_ hm (.v _)
  simp only [execOp, ho, Instr.sliceAt, Instr.slice, Sem.run_bind, run_under hu, Result.andThen_ok, hv.of_v]
  simp [hb]

theorem go_slc (t e : TypeId) (x : Operand) (lo hi : Option Operand) (n sz : Nat) (es : List AV) (l h : Nat) (ho : o.op = .slice t x lo hi none) (hu : P.underlying t = some (.slice e)) (hn : szOf P e = some n)
    (hx : ((compOpd x).ev ts).frz mem = .fsl sz es) (hl : boundOf ts 0 (lo.map compOpd) = some l) (hh : boundOf ts es.length (hi.map compOpd) = some h) (h1 : l ≤ h) (h2 : h ≤ es.length) (hsz : sz = n ∨ es = [])
    (hm : MR O F w B mem) (ht : TR F w B ts a) : Goes P O F w B o a (.ret (.fsl sz ((es.drop l).take (h - l)))) (freezeIds ((compOpd x).ev ts).slices mem) := by
  have hv := opd_ok ht x
  obtain ⟨G, m1, hFG, hGO, hfr⟩ := MR.freezes ((compOpd x).ev ts).slices hm
  have hv2 := frz_ok hm hFG _ _ hv (fun id hid b t sz es h1 h2 => hfr id hid b t sz es h1 h2)
  rw [hx] at hv2
  obtain ⟨base, cap, ex, _, hs, hr⟩ := fsl_inv hv2
  have hcap : es.length ≤ cap ∨ es = [] := by
    by_cases hne : es = []
    · exact .inr hne
    · exact .inl (hr hne).1
  have key : (execOp a.eval o).run P w = .ok (.value (.slice (if cap = l then base else base.map (·.add (l * n))) (h - l) (cap - l))) w := by
    have hc : es.length ≤ cap := by
      rcases hcap with hc | hc
      · exact hc
      · rw [hc]; simp
    have hb := bounds_run (P := P) (isS := true) (cap := cap) (w := w) ht hl hh h1 h2 hc
    simp only [execOp, ho, Instr.sliceAt, Instr.slice, Sem.run_bind, run_under hu, Result.andThen_ok, ex]
    simp only [Option.map_none, hb, Result.andThen_ok, run_size hn, Sem.run_pure]
  refine .value (w' := w) key m1 ⟨hFG, fun _ _ h => h, fun _ _ => rfl⟩ (.refl O w) hGO ?_
  by_cases hlh : l = h
  · subst hlh
    simp only [Nat.sub_self, List.take_zero]
    exact .fslNil _ _
  · have hne : es ≠ [] := by intro h; subst h; simp at h2; omega
    obtain ⟨hc, b, p, xs, rfl, hF, hcr, hcell⟩ := hr hne
    have hszn : sz = n := hsz.resolve_right hne
    subst hszn
    rw [if_neg (by omega)]
    simp only [Option.map_some, add_plain]
    have hlen : ((es.drop l).take (h - l)).length = h - l := by simp; omega
    have hfin : VR G w B (.fsl sz ((es.drop l).take (h - l))) (.slice (some ⟨b, p + l * sz, none⟩) ((es.drop l).take (h - l)).length (cap - l)) := by
      refine .fsl (xs := (xs.drop (l * sz)).take ((h - l) * sz)) b (p + l * sz) (cap - l) ?_ (fun e he => hs e (List.mem_of_mem_drop (List.mem_of_mem_take he))) hF (fun j x hj => ?_) (by rw [hlen]; omega)
      · rw [cellsAll_take _ _ (fun e he => hs e (List.mem_of_mem_drop he)), cellsAll_drop _ _ hs]
        exact (hcr.drop _).take _
      · rw [List.getElem?_take] at hj
        split at hj
        · rw [List.getElem?_drop] at hj
          have := hcell _ _ hj
          rw [Nat.add_assoc]; exact this
        · cases hj
    rw [hlen] at hfin
    exact hfin

end
end Go.Proofs.YtjmgnodeohmboaaDoor.Am
