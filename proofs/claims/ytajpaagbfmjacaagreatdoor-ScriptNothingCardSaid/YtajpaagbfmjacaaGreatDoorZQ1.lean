/-
  THE ABSTRACT MACHINE, FIFTH PART: indexes, slices, conversions, and what is made. No program is named here.
-/
import Derived.Test.YtajpaagbfmjacaaGreatDoorZQ0
import Derived.Lib.AppendStr
import Derived.ChangeKeysEq
namespace Go.Proofs.YtajpaagbfmjacaaGreatDoor.Am
set_option linter.unusedSimpArgs false
set_option linter.unusedVariables false
open Go
section
variable {P : Program} {O F F' : Nat → Prop} {w w' : World} {B B' : List Loc} {ts : Nat → AV} {mem mem' : List Blk} {a : Act} {o : Oper}

theorem fsl_at {sz : Nat} {es : List AV} {e : AV} {i : Nat} {b p : Nat} {xs : List Value} (h : CR F w [] (AV.cellsAll es) xs) (hs : ∀ e ∈ es, e.cells.length = sz) (hF : F b)
    (hx : ∀ j z, xs[j]? = some z → w.cell? ⟨b, p + j, none⟩ = some z) (he : es[i]? = some e) : VR F w B (.fptr e 0) (.pointer (some ⟨b, p + i * sz, none⟩)) := by
  have hcr := (h.drop (i * sz)).take sz
  have hes : (AV.cellsAll es).length = es.length * sz := AV.cellsAll_length hs
  have hel : e.cells.length = sz := hs e (List.mem_of_getElem? he)
  have heq : ((AV.cellsAll es).drop (i * sz)).take sz = e.cells := by
    apply List.ext_getElem?
    intro j
    rw [List.getElem?_take]
    split
    · rename_i hj
      rw [List.getElem?_drop, AV.cellsAll_at hs he j hj]
    · rw [List.getElem?_eq_none (by omega)]
  rw [heq] at hcr
  refine VR.fptr b (p + i * sz) 0 hcr hF (fun j z hj => ?_)
  rw [List.getElem?_take] at hj
  split at hj
  · rw [List.getElem?_drop] at hj
    have := hx _ _ hj
    rw [show p + i * sz + j = p + (i * sz + j) by omega]; exact this
  · cases hj

/-- A slice that nobody writes. -/
theorem fsl_inv {sz : Nat} {es : List AV} {y : Value} (h : VR F w B (.fsl sz es) y) : ∃ base cap, y = .slice base es.length cap ∧ es.length ≤ cap + es.length ∧ (∀ e ∈ es, e.cells.length = sz) ∧
    (es ≠ [] → es.length ≤ cap ∧ ∃ b p xs, base = some ⟨b, p, none⟩ ∧ F b ∧ CR F w [] (AV.cellsAll es) xs ∧ ∀ j z, xs[j]? = some z → w.cell? ⟨b, p + j, none⟩ = some z) := by
  cases h with
  | fslNil base cap => exact ⟨base, cap, rfl, by simp, fun e he => by simp at he, fun h => absurd rfl h⟩
  | fsl b p cap h hs hF hx hcap => exact ⟨_, cap, rfl, by omega, hs, fun _ => ⟨hcap, b, p, _, rfl, hF, h, hx⟩⟩

theorem frz_fsl {id sz : Nat} {es : List AV} {y : Value} (hi : mem[id]? = some (.frz (.fsl sz es))) (hm : MR O F w B mem) (hv : VR F w B (.osl id) y) : VR F w B (.fsl sz es) y := by
  have hlt := (List.getElem?_eq_some_iff.1 hi).1
  obtain ⟨l, hl⟩ : ∃ l, B[id]? = some l := ⟨_, List.getElem?_eq_getElem (by rw [hm.len]; exact hlt)⟩
  have hbr := hm.br id _ l hi hl
  match l, hbr, hl with
  | .arr sz' g n cap, hb, hl =>
    cases hv with
    | omap h => rw [hl] at h; cases h
    | oslW h => rw [hl] at h; cases h
    | osl h => rw [hl] at h; cases h; exact bare_up hb
  | .wrr sz' b off n cap, hb, hl =>
    cases hv with
    | omap h => rw [hl] at h; cases h
    | osl h => rw [hl] at h; cases h
    | oslW h => rw [hl] at h; cases h; exact bare_up hb

theorem go_iaxF (t e : TypeId) (x i : Operand) (sz : Nat) (es : List AV) (k : Int) (el : AV) (ho : o.op = .indexAddr t x i) (h1 : P.underlying t = some (.slice e)) (h2 : szOf P e = some sz)
    (hx : (compOpd x).ev ts = .fsl sz es ∨ ∃ id, (compOpd x).ev ts = .osl id ∧ mem[id]? = some (.frz (.fsl sz es))) (hi : intOf? ((compOpd i).ev ts) = some k) (h0 : 0 ≤ k) (he : es[k.toNat]? = some el)
    (hm : MR O F w B mem) (ht : TR F w B ts a) : Goes P O F w B o a (.ret (.fptr el 0)) mem := by
  have h := opd_ok ht x
  have h' : VR F w B (.fsl sz es) (a.eval x) := by
    rcases hx with hx | ⟨id, hx, hid⟩
    · rw [hx] at h; exact h
    · rw [hx] at h; exact frz_fsl hid hm h
  obtain ⟨ki, ei⟩ := int_of ht hi
  have hlt := (List.getElem?_eq_some_iff.1 he).1
  obtain ⟨base, cap, ex, _, hs, hr⟩ := fsl_inv h'
  obtain ⟨hcap, b, p, xs, rfl, hF, hc, hcell⟩ := hr (by intro h; subst h; simp at he)
  refine .pure (x := .pointer (some ⟨b, p + k.toNat * sz, none⟩)) ?_ hm (fsl_at hc hs hF hcell he)
  simp only [execOp, ho, ex, ei, Instr.indexAt, asIntOf, Sem.run_bind, run_under h1, Result.andThen_ok, Sem.run_pure]
  rw [if_pos ⟨h0, by omega⟩]
  simp only [Sem.run_bind, run_size h2, Result.andThen_ok, Sem.run_pure, add_plain]

theorem go_iaxO (t e : TypeId) (x i : Operand) (tt sz id : Nat) (es : List AV) (k : Int) (ho : o.op = .indexAddr t x i) (h1 : P.underlying t = some (.slice e)) (h2 : szOf P e = some sz)
    (hx : (compOpd x).ev ts = .osl id) (hid : mem[id]? = some (.arr tt sz es)) (hi : intOf? ((compOpd i).ev ts) = some k) (h0 : 0 ≤ k) (hk : k < es.length)
    (hm : MR O F w B mem) (ht : TR F w B ts a) : Goes P O F w B o a (.ret (.ptr id k.toNat 0)) mem := by
  have h := opd_ok ht x
  rw [hx] at h
  obtain ⟨ki, ei⟩ := int_of ht hi
  have hlt := (List.getElem?_eq_some_iff.1 hid).1
  obtain ⟨l, hl⟩ : ∃ l, B[id]? = some l := ⟨_, List.getElem?_eq_getElem (by rw [hm.len]; exact hlt)⟩
  have hbr := hm.br id _ l hid hl
  match l, hbr, hl with
  | .arr sz' g n cap, ⟨h3, h4, h5, h6, xs, h7, h8⟩, hl =>
    subst h3; subst h5
    cases g with
    | none =>
      rcases h7.2 with ⟨_, h9⟩ | ⟨g', cap', cur, h9, _⟩
      · have := List.eq_nil_of_length_eq_zero h9; subst this; simp at hk; omega
      · simp [head] at h9
    | some g =>
      have ex : a.eval x = .slice (some ⟨g, 0, none⟩) es.length cap := by
        generalize hy : a.eval x = y at h
        cases h with
        | omap h => rw [hl] at h; cases h
        | oslW h => rw [hl] at h; cases h
        | osl h => rw [hl] at h; cases h; rfl
      refine .pure (x := .pointer (some ⟨g, k.toNat * sz + 0, none⟩)) ?_ hm (.ptrA hl)
      simp only [execOp, ho, ex, ei, Instr.indexAt, asIntOf, Sem.run_bind, run_under h1, Result.andThen_ok, Sem.run_pure]
      rw [if_pos ⟨h0, by omega⟩]
      simp only [Sem.run_bind, run_size h2, Result.andThen_ok, Sem.run_pure, add_plain, Nat.zero_add, Nat.add_zero]

/-- What is left of an owned slice. -/
theorem wrr_inv {id t sz : Nat} {es : List AV} {y : Value} (hi : mem[id]? = some (.wrr t sz es)) (hm : MR O F w B mem) (hv : VR F w B (.osl id) y) :
    ∃ b off cap cur xs, y = .slice (some ⟨b, off, none⟩) es.length cap ∧ 0 < sz ∧ es.length ≤ cap ∧ cap ≤ maxLen ∧ (∀ e ∈ es, e.cells.length = sz) ∧ w.heap[b]? = some (.cells cur t (0, 0)) ∧ off + cap * sz ≤ cur.size ∧ (cur.toList.drop off).take (es.length * sz) = xs ∧ CR F w [] (AV.cellsAll es) xs ∧
      ownB mem B id = some b ∧ B[id]? = some (.wrr sz b off es.length cap) := by
  have hlt := (List.getElem?_eq_some_iff.1 hi).1
  obtain ⟨l, hl⟩ : ∃ l, B[id]? = some l := ⟨_, List.getElem?_eq_getElem (by rw [hm.len]; exact hlt)⟩
  have hbr := hm.br id _ l hi hl
  match l, hbr, hl with
  | .wrr sz' b off n cap, ⟨h1, h2, h3, h4, h5, h6, cur, xs, h7, h8, h9, h10⟩, hl =>
    subst h1; subst h3
    cases hv with
    | omap h => rw [hl] at h; cases h
    | osl h => rw [hl] at h; cases h
    | oslW h =>
      rw [hl] at h; cases h
      exact ⟨b, off, cap, cur, xs, rfl, h2, h4, h5, h6, h7, h8, h9, h10, ownB_mk hi hl rfl rfl, hl⟩

theorem go_iaxY (t e : TypeId) (x i : Operand) (tt sz id : Nat) (es : List AV) (k : Int) (ho : o.op = .indexAddr t x i) (h1 : P.underlying t = some (.slice e)) (h2 : szOf P e = some sz)
    (hx : (compOpd x).ev ts = .osl id) (hid : mem[id]? = some (.wrr tt sz es)) (hi : intOf? ((compOpd i).ev ts) = some k) (h0 : 0 ≤ k) (hk : k < es.length)
    (hm : MR O F w B mem) (ht : TR F w B ts a) : Goes P O F w B o a (.ret (.ptr id k.toNat 0)) mem := by
  have h := opd_ok ht x
  rw [hx] at h
  obtain ⟨ki, ei⟩ := int_of ht hi
  obtain ⟨b, off, cap, cur, xs, ex, q1, q2, q3, q4, q5, q6, q7, q8, q9, q10⟩ := wrr_inv hid hm h
  refine .pure (x := .pointer (some ⟨b, off + (k.toNat * sz + 0), none⟩)) ?_ hm (.ptrW q10)
  simp only [execOp, ho, ex, ei, Instr.indexAt, asIntOf, Sem.run_bind, run_under h1, Result.andThen_ok, Sem.run_pure]
  rw [if_pos ⟨h0, by omega⟩]
  simp only [Sem.run_bind, run_size h2, Result.andThen_ok, Sem.run_pure, add_plain, Nat.add_zero]

theorem go_iaa (t e : TypeId) (x i : Operand) (len sz : Nat) (k : Int) (v : AV) (ho : o.op = .indexAddr t x i) (h1 : P.underlying t = some (.array len e)) (h2 : szOf P e = some sz)
    (hx : (∃ id j q, (compOpd x).ev ts = .ptr id j q ∧ v = .ptr id j (q + k.toNat * sz)) ∨ (∃ e q, (compOpd x).ev ts = .fptr e q ∧ v = .fptr e (q + k.toNat * sz))) (hi : intOf? ((compOpd i).ev ts) = some k) (h0 : 0 ≤ k) (hk : k < len)
    (hm : MR O F w B mem) (ht : TR F w B ts a) : Goes P O F w B o a (.ret v) mem := by
  have h := opd_ok ht x
  obtain ⟨ki, ei⟩ := int_of ht hi
  have key : ∀ b p, a.eval x = .pointer (some ⟨b, p, none⟩) → (execOp a.eval o).run P w = .ok (.value (.pointer (some ⟨b, p + k.toNat * sz, none⟩))) w := by
    intro b p ex
    simp only [execOp, ho, ex, ei, Instr.indexAt, asIntOf, Sem.run_bind, run_under h1, Result.andThen_ok, Sem.run_pure, Instr.sureAddr]
    rw [if_pos ⟨h0, by omega⟩]
    simp only [Sem.run_bind, run_size h2, Result.andThen_ok, Sem.run_pure, add_plain]
  rcases hx with ⟨id, j, q, hx, rfl⟩ | ⟨e, q, hx, rfl⟩
  · rw [hx] at h
    generalize hy : a.eval x = y at h
    cases h with
    | ptrV h => exact .pure (key _ _ hy) hm (.ptrV h)
    | ptrA h => refine .pure (key _ _ hy) hm ?_; rw [Nat.add_assoc]; exact .ptrA h
    | ptrW h => refine .pure (key _ _ hy) hm ?_; rw [Nat.add_assoc, Nat.add_assoc]; exact .ptrW h
  · rw [hx] at h
    generalize hy : a.eval x = y at h
    cases h with
    | fptr b a0 _ h hF hc => refine .pure (key _ _ hy) hm ?_; rw [Nat.add_assoc]; exact .fptr b a0 _ h hF hc

theorem cr_vals {F : Nat → Prop} {w : World} {B : List Loc} : ∀ l : List Value, CR F w B (l.map .v) l
  | [] => .nil
  | x :: l => .cons (.v x) (cr_vals l)
theorem go_iag (t e : TypeId) (x i : Operand) (len sz b q : Nat) (cs : List Value) (k : Int) (ho : o.op = .indexAddr t x i) (h1 : P.underlying t = some (.array len e)) (h2 : szOf P e = some sz)
    (hx : (compOpd x).ev ts = .v (.pointer (some ⟨b, q, none⟩))) (hg : globA b = some cs) (hi : intOf? ((compOpd i).ev ts) = some k) (h0 : 0 ≤ k) (hk : k < len)
    (hm : MR O F w B mem) (ht : TR F w B ts a) : Goes P O F w B o a (.ret (.fptr (.agg (cs.map .v)) (q + k.toNat * sz))) mem := by
  have h := opd_ok ht x
  obtain ⟨ki, ei⟩ := int_of ht hi
  rw [hx] at h
  have ex := h.of_v
  obtain ⟨hF, t', z, hb⟩ := hm.gl.arr b cs hg
  have hv : VR F w B (.fptr (.agg (cs.map .v)) (q + k.toNat * sz)) (.pointer (some ⟨b, 0 + (q + k.toNat * sz), none⟩)) :=
    .fptr (xs := cs) b 0 _ (by rw [AV.cells_agg]; exact cr_vals cs) hF (fun j y hj => by simp [World.cell?, hb, hj])
  rw [Nat.zero_add] at hv
  refine .pure (x := .pointer (some ⟨b, q + k.toNat * sz, none⟩)) ?_ hm hv
  simp only [execOp, ho, ex, ei, Instr.indexAt, asIntOf, Sem.run_bind, run_under h1, Result.andThen_ok, Sem.run_pure, Instr.sureAddr]
  rw [if_pos ⟨h0, by omega⟩]
  simp only [Sem.run_bind, run_size h2, Result.andThen_ok, Sem.run_pure, add_plain]

theorem bytes_cells {es : List AV} {l : List UInt8} {xs : List Value} (h : bytesOf es = some l) (hc : CR F w B es xs) : ∃ ns : List Int, xs = ns.map (Value.int .u8) ∧ l = ns.map fun n => UInt8.ofNat n.toNat := by
  induction es generalizing l xs with
  | nil => simp [bytesOf] at h; subst h; cases hc; exact ⟨[], rfl, rfl⟩
  | cons e es ih =>
    cases hc with
    | cons h1 h2 =>
      unfold bytesOf at h
      split at h
      · rename_i heq; cases heq
      · rename_i n r heq
        cases heq
        cases hb : bytesOf es with
        | none => simp [hb] at h
        | some l' =>
          simp [hb] at h
          obtain ⟨ns, rfl, rfl⟩ := ih hb h2
          refine ⟨n :: ns, ?_, by rw [← h]; rfl⟩
          rw [h1.of_v]; rfl
      · cases h

theorem cellsAll_one {es : List AV} {l : List UInt8} (h : bytesOf es = some l) : AV.cellsAll es = es := by
  induction es generalizing l with
  | nil => rfl
  | cons e es ih =>
    unfold bytesOf at h
    split at h
    · rename_i heq; cases heq
    · rename_i n r heq
      cases heq
      cases hb : bytesOf es with
      | none => simp [hb] at h
      | some l' => simp only [AV.cellsAll, AV.cells, List.singleton_append]; rw [ih hb]
    · cases h

theorem foldl_push (ns : List Int) : ∀ s : ByteArray, ns.foldl (fun r n => r.push (UInt8.ofNat n.toNat)) s = ⟨(s.data.toList ++ ns.map fun n => UInt8.ofNat n.toNat).toArray⟩ := by
  induction ns with
  | nil => intro s; simp
  | cons n ns ih => intro s; rw [List.foldl_cons, ih]; congr 1; simp [ByteArray.push]

theorem go_b2s (s d e : TypeId) (x : Operand) (sz : Nat) (es : List AV) (l : List UInt8) (ho : o.op = .convert s d x) (h1 : P.underlying s = some (.slice e)) (h2 : P.underlying d = some .string) (h3 : P.underlying e = some (.int .u8))
    (hx : elems mem ((compOpd x).ev ts) = some (sz, es)) (hl : bytesOf es = some l) (hm : MR O F w B mem) (ht : TR F w B ts a) : Goes P O F w B o a (.ret (.v (.string ⟨l.toArray⟩))) mem := by
  obtain ⟨base, cap, ex, hs, hr⟩ := elems_ok hx hm (opd_ok ht x)
  refine .pure (x := .string ⟨l.toArray⟩) ?_ hm (.v _)
  have hrun : (Conv.bytesToString (.slice base es.length cap)).run P w = .ok (.string ⟨l.toArray⟩) w := by
    by_cases hne : es = []
    · subst hne
      simp [bytesOf] at hl
      subst hl
      cases base with
      | none => simp [Conv.bytesToString]; rfl
      | some ad =>
        have := run_bytesToString (P := P) w ad 0 cap [] (by simp [loadCells, loadCellsFrom])
        simp at this ⊢; exact this
    · obtain ⟨b, p, xs, rfl, hc, hcell⟩ := hr hne
      rw [cellsAll_one hl] at hc
      obtain ⟨ns, rfl, rfl⟩ := bytes_cells hl hc
      have hlen : (ns.map (Value.int .u8)).length = es.length := by rw [hc.length]
      have hload := run_loadCells_list (P := P) w ⟨b, p, none⟩ (ns.map (Value.int .u8)) (fun j y hj => by rw [add_plain]; exact hcell j y hj)
      rw [hlen] at hload
      rw [run_bytesToString (P := P) w ⟨b, p, none⟩ es.length cap ns hload, foldl_push]
      simp
  simp only [execOp, ho, ex, Sem.run_bind, run_convert_bytes_string w s d e base _ _ h1 h3 h2, hrun, Result.andThen_ok, Sem.run_pure]

/-! ### What makes memory -/
theorem zero_run {t : TypeId} {z : List Value} (h : zeroOf P t = some z) : ∃ v, (zeroValue t).run P w = .ok v w ∧ v.cells.toList = z := by
  unfold zeroOf at h
  cases hi : P.info? t with
  | none => simp [hi] at h
  | some i =>
    cases hz : i.zero with
    | none => simp [hi, hz] at h
    | some v =>
      simp [hi, hz] at h
      exact ⟨v, by simp [zeroValue, typeInfo, hi, hz], h⟩

theorem CR.lits (z : List Value) : CR F w B (z.map AV.v) z := by
  induction z with
  | nil => exact .nil
  | cons x z ih => exact .cons (.v x) ih

theorem alloc_old (w : World) (ob : Obj) (k : Nat) (hk : k < w.heap.size) : (w.alloc ob).heap[k]? = w.heap[k]? := by
  show (w.heap.push ob)[k]? = _
  rw [Array.getElem?_push, if_neg (by omega)]
theorem alloc_new (w : World) (ob : Obj) : (w.alloc ob).heap[w.heap.size]? = some ob := by
  show (w.heap.push ob)[w.heap.size]? = _
  rw [Array.getElem?_push, if_pos rfl]

theorem ev_alloc (hO : ∀ b, w.heap.size ≤ b → O b) (ob : Obj) : Ev O w (w.alloc ob) :=
  ⟨rfl, rfl, rfl, by simp, fun k hk _ => alloc_old w ob k hk⟩

/-- A new variable. -/
theorem new_var (hm : MR O F w B mem) (hO : ∀ b, w.heap.size ≤ b → O b) {cs : List AV} {xs : List Value} (t : TypeId) (hc : CR F w B cs xs) :
    MR O F (w.alloc (.cells xs.toArray t)) (B ++ [.var w.heap.size]) (mem ++ [.var cs]) ∧ Ext F F w (w.alloc (.cells xs.toArray t)) B (B ++ [.var w.heap.size]) ∧ Ev O w (w.alloc (.cells xs.toArray t)) ∧
      VR F (w.alloc (.cells xs.toArray t)) (B ++ [.var w.heap.size]) (.ptr mem.length 0 0) (.pointer (some ⟨w.heap.size, 0, none⟩)) := by
  have e : Ext F F w (w.alloc (.cells xs.toArray t)) B (B ++ [.var w.heap.size]) :=
    ⟨fun _ h => h, (ext_append F w B _).pl, fun b hb => alloc_old w _ b (hm.fr b hb)⟩
  refine ⟨hm.push (by simp) (fun b hb => alloc_old w _ b (hm.old hb)) ⟨t, xs, alloc_new w _, hc.mono e⟩ (fun _ b hb => by cases hb; exact ⟨(hm.fresh (Nat.le_refl _)).1, (hm.fresh (Nat.le_refl _)).2, by simp, hO _ (Nat.le_refl _)⟩), e, ev_alloc hO _, ?_⟩
  exact .ptrV (by rw [← hm.len]; simp)

theorem go_alloc (t : TypeId) (z : List Value) (ho : o.op = .alloc t) (hz : zeroOf P t = some z) (hO : ∀ b, w.heap.size ≤ b → O b) (hm : MR O F w B mem) :
    Goes P O F w B o a (.ret (.ptr mem.length 0 0)) (mem ++ [.var (z.map .v)]) := by
  obtain ⟨v, hv, hvz⟩ := zero_run (P := P) (w := w) hz
  obtain ⟨h1, h2, h3, h4⟩ := new_var hm hO t (CR.lits (F := F) (w := w) (B := B) z)
  refine .value (x := .pointer (some ⟨w.heap.size, 0, none⟩)) (w' := w.alloc (.cells z.toArray t)) ?_ h1 h2 h3 (fun _ h => .inl h) h4
  simp only [execOp, ho, Instr.alloc, Sem.run_bind, hv, Result.andThen_ok, newVar, newRow, run_newObj, Sem.run_pure, World.alloc_eq, ← hvz]

theorem go_box (t : TypeId) (x : Operand) (ho : o.op = .box t x) (hs : ((compOpd x).ev ts).shaped = true) (hO : ∀ b, w.heap.size ≤ b → O b) (hm : MR O F w B mem) (ht : TR F w B ts a) :
    Goes P O F w B o a (.ret (.ptr mem.length 0 0)) (mem ++ [.var ((compOpd x).ev ts).cells]) := by
  obtain ⟨hc, _⟩ := (opd_ok ht x).shaped hs
  obtain ⟨h1, h2, h3, h4⟩ := new_var hm hO t hc
  refine .value (x := .pointer (some ⟨w.heap.size, 0, none⟩)) (w' := w.alloc (.cells (a.eval x).cells.toList.toArray t)) ?_ h1 h2 h3 (fun _ h => .inl h) h4
  simp only [execOp, ho, Instr.box, Sem.run_bind, Result.andThen_ok, newVar, newRow, run_newObj, Sem.run_pure, World.alloc_eq]

end
end Go.Proofs.YtajpaagbfmjacaaGreatDoor.Am
/-
  THE ABSTRACT MACHINE, SIXTH PART: stores, appends, and aggregates. No program is named here.
-/
namespace Go.Proofs.YtajpaagbfmjacaaGreatDoor.Am
set_option linter.unusedSimpArgs false
set_option linter.unusedVariables false
open Go
section
variable {P : Program} {O F F' : Nat → Prop} {w w' : World} {B B' : List Loc} {ts : Nat → AV} {mem mem' : List Blk} {a : Act} {o : Oper}

def spliceV (xs : List Value) (o : Nat) (new : List Value) : List Value := xs.take o ++ new ++ xs.drop (o + new.length)

theorem CR.splice {cs new : List AV} {xs ys : List Value} (h : CR F w B cs xs) (k : CR F w B new ys) (o : Nat) : CR F w B (splice cs o new) (spliceV xs o ys) := by
  unfold Am.splice spliceV
  rw [k.length]
  exact ((h.take o).append k).append (h.drop _)

theorem take_splice {α : Type} (l ys : List α) (p N : Nat) (h : p + ys.length ≤ N) (hN : N ≤ l.length) :
    (l.take p ++ ys ++ l.drop (p + ys.length)).take N = (l.take N).take p ++ ys ++ (l.take N).drop (p + ys.length) := by
  have hl : l = l.take N ++ l.drop N := (List.take_append_drop N l).symm
  have ha : (l.take N).length = N := by simp; omega
  generalize l.take N = a at hl ha ⊢
  generalize l.drop N = b at hl
  subst hl
  have e1 : (a ++ b).take p = a.take p := List.take_append_of_le_length (by omega)
  have e2 : (a ++ b).drop (p + ys.length) = a.drop (p + ys.length) ++ b := List.drop_append_of_le_length (by omega)
  rw [e1, e2, ← List.append_assoc]
  refine List.take_left' ?_
  simp; omega

theorem shaped_one {c : AV} (h : c.shaped = true) : ∀ d ∈ c.cells, d.one = true := by
  cases c <;> first | (simpa [AV.shaped, AV.cells] using h) | (simp [AV.shaped, AV.one] at h)

theorem cells_one {c : AV} (h : c.one = true) : c.cells = [c] := by
  cases c <;> first | rfl | (simp [AV.one] at h)

theorem splice_append_left {α β : List AV} {k : Nat} {new : List AV} (h : k + new.length ≤ α.length) : splice α k new ++ β = splice (α ++ β) k new := by
  simp only [splice, List.append_assoc]
  rw [List.take_append_of_le_length (by omega), List.drop_append_of_le_length (by omega)]
theorem splice_append_right {α β : List AV} {k : Nat} {new : List AV} : α ++ splice β k new = splice (α ++ β) (α.length + k) new := by
  simp only [splice]
  rw [List.take_length_add_append, List.append_assoc, List.append_assoc, List.append_assoc, Nat.add_assoc, List.drop_length_add_append]

theorem cellsAll_set {sz : Nat} {es new : List AV} {i k : Nat} {e : AV} (hs : ∀ e ∈ es, e.cells.length = sz) (he : es[i]? = some e) (hk : k + new.length ≤ e.cells.length) (ho : ∀ c ∈ new, c.one = true) :
    AV.cellsAll (es.set i (e.recell (splice e.cells k new))) = splice (AV.cellsAll es) (i * sz + k) new ∧ ∀ d ∈ es.set i (e.recell (splice e.cells k new)), d.cells.length = sz := by
  have hrc : (e.recell (splice e.cells k new)).cells = splice e.cells k new := by
    cases e with
    | agg cs => rfl
    | _ =>
      simp only [AV.cells, List.length_singleton] at hk
      simp only [AV.recell, AV.cells]
      match new, hk, ho with
      | [], hk, _ => cases k with
        | zero => rfl
        | succ k => cases k with
          | zero => rfl
          | succ k => simp at hk
      | [c], hk, ho =>
        have : k = 0 := by simp at hk; omega
        subst this
        simp only [splice, List.take_zero, List.nil_append, List.length_singleton, List.drop_succ_cons, List.drop_nil, List.append_nil, List.headD_cons]
        exact cells_one (ho c (by simp))
      | _ :: _ :: _, hk, _ => exact absurd hk (by simp only [List.length_cons]; omega)
  have hel : e.cells.length = sz := hs e (List.mem_of_getElem? he)
  have hrl : (e.recell (splice e.cells k new)).cells.length = sz := by
    rw [hrc]; simp only [splice, List.length_append, List.length_take, List.length_drop]; omega
  refine ⟨?_, fun d hd => ?_⟩
  · generalize e.recell (splice e.cells k new) = e' at hrc
    clear hrl
    induction es generalizing i with
    | nil => simp at he
    | cons x es ih =>
      cases i with
      | zero =>
        simp at he; subst he
        simp only [List.set_cons_zero, AV.cellsAll, hrc, Nat.zero_mul, Nat.zero_add]
        exact splice_append_left hk
      | succ i =>
        simp only [List.getElem?_cons_succ] at he
        simp only [List.set_cons_succ, AV.cellsAll]
        rw [ih (fun e he => hs e (by simp [he])) he, splice_append_right, hs x (by simp)]
        congr 1
        rw [Nat.add_mul]; omega
  · rcases List.mem_or_eq_of_mem_set hd with hd | rfl
    · exact hs d hd
    · exact hrl

/-- The cells of a store's target. -/
theorem put_ok {new : List AV} {ys : List Value} {p : AV} {x : Value} (h : putAt mem new p = some mem') (hm : MR O F w B mem) (hv : VR F w B p x) (hn : CR F w B new ys) (h1 : ∀ u ∈ ys, u.oneCell' = true) (ho : ∀ c ∈ new, c.one = true) :
    ∃ b k, x = .pointer (some ⟨b, k, none⟩) ∧ ∃ w', (storeCells ⟨b, k, none⟩ ys).run P w = .ok () w' ∧ MR O F w' B mem' ∧ Ext F F w w' B B ∧ Ev O w w' := by
  unfold putAt at h
  split at h
  · rename_i id i k
    split at h
    · rename_i cs hi
      split at h
      · rename_i hc
        obtain ⟨rfl, hle⟩ := hc
        cases h
        have hlt := (List.getElem?_eq_some_iff.1 hi).1
        obtain ⟨l, hl⟩ : ∃ l, B[id]? = some l := ⟨_, List.getElem?_eq_getElem (by rw [hm.len]; exact hlt)⟩
        have hbr := hm.br id _ l hi hl
        match l, hbr, hl with
        | .var b, ⟨t, xs, h2, h3⟩, hl =>
          have hx : x = .pointer (some ⟨b, k, none⟩) := by
            cases hv with
            | ptrV h => rw [hl] at h; cases h; rfl
            | ptrA h => rw [hl] at h; cases h
            | ptrW h => rw [hl] at h; cases h
          have hsz : k + ys.length ≤ xs.length := by rw [hn.length, h3.length]; exact hle
          have hrun := run_storeCells_at P b k t ys 0 xs.toArray w h2 (by simpa using hsz) h1
          simp only [Nat.add_zero] at hrun
          obtain ⟨m1, e1⟩ := hm.write (w' := w.setRow b (xs.take k ++ ys ++ xs.drop (k + ys.length)).toArray) (k := .var (splice cs k new)) hi hl rfl rfl (by simp) (fun c hc => setRow_other w b c _ hc)
            (fun e => ⟨t, _, setRow_heap w b _ _ t _ h2, (h3.splice hn k).mono e⟩)
          exact ⟨b, k, hx, _, hrun, m1, e1, ⟨rfl, rfl, rfl, by simp, fun c _ ho => setRow_other w b c _ (fun hcb => ho (hcb ▸ (hm.own id b (ownB_mk hi hl rfl rfl)).1))⟩⟩
      · cases h
    · rename_i t cs hi
      split at h
      · rename_i hc
        obtain ⟨rfl, hle⟩ := hc
        cases h
        have hlt := (List.getElem?_eq_some_iff.1 hi).1
        obtain ⟨l, hl⟩ : ∃ l, B[id]? = some l := ⟨_, List.getElem?_eq_getElem (by rw [hm.len]; exact hlt)⟩
        have hbr := hm.br id _ l hi hl
        match l, hbr, hl with
        | .var b, ⟨xs, h2, h3⟩, hl =>
          have hx : x = .pointer (some ⟨b, k, none⟩) := by
            cases hv with
            | ptrV h => rw [hl] at h; cases h; rfl
            | ptrA h => rw [hl] at h; cases h
            | ptrW h => rw [hl] at h; cases h
          have hsz : k + ys.length ≤ xs.length := by rw [hn.length, h3.length]; exact hle
          have hrun := run_storeCells_at P b k t ys 0 xs.toArray w h2 (by simpa using hsz) h1
          simp only [Nat.add_zero] at hrun
          obtain ⟨m1, e1⟩ := hm.write (w' := w.setRow b (xs.take k ++ ys ++ xs.drop (k + ys.length)).toArray) (k := .tvar t (splice cs k new)) hi hl rfl rfl (by simp) (fun c hc => setRow_other w b c _ hc)
            (fun e => ⟨_, setRow_heap w b _ _ t _ h2, (h3.splice hn k).mono e⟩)
          exact ⟨b, k, hx, _, hrun, m1, e1, ⟨rfl, rfl, rfl, by simp, fun c _ ho => setRow_other w b c _ (fun hcb => ho (hcb ▸ (hm.own id b (ownB_mk hi hl rfl rfl)).1))⟩⟩
      · cases h
    · rename_i t sz es hi
      split at h
      · rename_i e he
        split at h
        · rename_i hc
          obtain ⟨hle, hbare⟩ := hc
          cases h
          have hlt := (List.getElem?_eq_some_iff.1 hi).1
          obtain ⟨l, hl⟩ : ∃ l, B[id]? = some l := ⟨_, List.getElem?_eq_getElem (by rw [hm.len]; exact hlt)⟩
          have hbr := hm.br id _ l hi hl
          match l, hbr, hl with
          | .arr sz' g n cap, ⟨h2, h3, h4, h5, xs, h6, h7⟩, hl =>
            subst h2; subst h4
            have hib : i < es.length := (List.getElem?_eq_some_iff.1 he).1
            have hel : e.cells.length = sz := h5 e (List.mem_of_getElem? he)
            rcases h6.2 with ⟨_, h9⟩ | ⟨g', cap', cur, h9, _, hblk, hnc, hcm, hcs, htk⟩
            · omega
            · have hg : g = some g' ∧ cap = cap' := by
                cases g with
                | none => simp [head] at h9
                | some g => simp [head] at h9; exact ⟨by rw [h9.1], h9.2⟩
              obtain ⟨rfl, rfl⟩ := hg
              have hx : x = .pointer (some ⟨g', i * sz + k, none⟩) := by
                cases hv with
                | ptrV h => rw [hl] at h; cases h
                | ptrA h => rw [hl] at h; cases h; rfl
                | ptrW h => rw [hl] at h; cases h
              have hyl : ys.length = new.length := hn.length
              have hmul : i * sz + sz ≤ es.length * sz := by
                have : (i + 1) * sz ≤ es.length * sz := Nat.mul_le_mul_right sz hib
                rw [Nat.add_mul] at this; omega
              have hmul2 : es.length * sz ≤ cap * sz := Nat.mul_le_mul_right sz hnc
              have hsz : i * sz + k + ys.length ≤ cur.size := by rw [hcs]; omega
              have hrun := run_storeCells_at P g' (i * sz + k) t ys 0 cur w hblk (by simpa using hsz) h1
              simp only [Nat.add_zero] at hrun
              have hset := cellsAll_set h5 he hle ho
              obtain ⟨m1, e1⟩ := hm.write (w' := w.setRow g' (cur.toList.take (i * sz + k) ++ ys ++ cur.toList.drop (i * sz + k + ys.length)).toArray) (k := .arr t sz (es.set i (e.recell (splice e.cells k new)))) hi hl rfl rfl (by simp)
                (fun c hc => setRow_other w g' c _ hc)
                (fun e0 => by
                  refine ⟨rfl, h3, by simp, hset.2, spliceV xs (i * sz + k) ys, ⟨?_, .inr ⟨g', cap, _, by simp [head], Nat.zero_le _, setRow_heap w g' _ _ t _ hblk, by simpa using hnc, hcm, ?_, ?_⟩⟩, ?_⟩
                  · have := h6.1
                    simp only [spliceV, List.length_append, List.length_take, List.length_drop, List.length_set]
                    omega
                  · simp only [List.size_toArray, List.length_append, List.length_take, List.length_drop, Array.length_toList]
                    omega
                  · have hl0 := h6.1
                    rw [← htk]
                    simp only [spliceV, List.length_set]
                    have := take_splice cur.toList ys (i * sz + k) (es.length * sz) (by omega) (by simpa [hcs] using hmul2)
                    rw [List.append_assoc] at this ⊢
                    simpa using this
                  · rw [hset.1]
                    exact (h7.mono e0.bare).splice ((hn.toBare hbare).mono e0.bare) _)
              exact ⟨g', i * sz + k, hx, _, hrun, m1, e1, ⟨rfl, rfl, rfl, by simp, fun c _ ho => setRow_other w g' c _ (fun hcb => ho (hcb ▸ (hm.own id g' (ownB_mk hi hl rfl rfl)).1))⟩⟩
        · cases h
      · cases h
    · cases h
  · cases h

theorem go_st (t : TypeId) (x y : Operand) (n : Nat) (ho : o.op = .store t x y) (hk : szOf P t = some n) (hs : ((compOpd y).ev ts).shaped = true) (hl : ((compOpd y).ev ts).cells.length = n)
    (hp : putAt mem ((compOpd y).ev ts).cells ((compOpd x).ev ts) = some mem') (hm : MR O F w B mem) (ht : TR F w B ts a) : Goes P O F w B o a (.ret .any) mem' := by
  obtain ⟨hc, h1⟩ := (opd_ok ht y).shaped hs
  obtain ⟨b, k, hx, w', hrun, m1, e1, ev1⟩ := put_ok (P := P) hp hm (opd_ok ht x) hc h1 (shaped_one hs)
  intro K Q h
  unfold Oper.wp
  have : (execOp a.eval o).run P w = .ok .skip w' := by
    have hsz : (a.eval y).cells.size = n := by rw [← Array.length_toList, hc.length, hl]
    simp only [execOp, ho, Instr.storeAt, hx, Instr.sureAddr, storeVar, Sem.run_bind, Sem.run_pure, Result.andThen_ok, run_size hk, hsz]
    simp [hrun]
  rw [this]
  exact h undef w' F B m1 e1 ev1 (fun _ h => .inl h) (.any _)

/-- An owned slice's place behind an append. -/
theorem own_append {t sz n m : Nat} {es es2 : List AV} {xs news : List Value} {v' : Value} (hm : MR O F w B mem) (hO : ∀ b, w.heap.size ≤ b → O b) (hsz : 0 < sz) {row : Option Nat}
    (hrow : w'.ownsRow 0 t sz v' (n + m) (xs ++ news)) (hg : w.grownBy w' row) (hn : n = es.length) (hm2 : m = es2.length) (h1 : CR F w [] (AV.cellsAll es) xs) (h2 : CR F w [] (AV.cellsAll es2) news)
    (hs : ∀ e ∈ es ++ es2, e.cells.length = sz) (hr : ∀ b, row = some b → O b ∧ ¬ F b ∧ ∀ i, ownB mem B i ≠ some b)
    (hv : ∀ b, v'.ownBlock = some b → row = some b ∨ w.heap.size ≤ b) :
    ∃ l, MR O F w' (B ++ [l]) (mem ++ [.arr t sz (es ++ es2)]) ∧ Ext F F w w' B (B ++ [l]) ∧ Ev O w w' ∧ VR F w' (B ++ [l]) (.osl mem.length) v' := by
  have keep : ∀ b, (F b ∨ ∃ i, ownB mem B i = some b) → w'.heap[b]? = w.heap[b]? := fun b hb => hg.block b (hm.old hb) (fun e => by
    obtain ⟨_, hnf, hno⟩ := hr b e.symm
    rcases hb with hb | ⟨i, hb⟩
    · exact hnf hb
    · exact hno i hb)
  have e0 : Ext F F w w' [] [] := ⟨fun _ h => h, fun _ _ h => h, fun b hb => keep b (.inl hb)⟩
  obtain ⟨l, hlv, hlb⟩ : ∃ l : Loc, (∃ g cap, l = .arr sz g (n + m) cap ∧ v' = head g (n + m) cap) ∧ ∀ b, l.block = some b → v'.ownBlock = some b ∧ b < w'.heap.size := by
    rcases hrow.2 with ⟨hv', h0⟩ | ⟨g, cap, cur, hv', _, hblk, _⟩
    · exact ⟨.arr sz none (n + m) 0, ⟨none, 0, rfl, by rw [hv', h0]; rfl⟩, fun b hb => by cases hb⟩
    · exact ⟨.arr sz (some g) (n + m) cap, ⟨some g, cap, rfl, hv'⟩, fun b hb => by cases hb; exact ⟨by rw [hv']; rfl, (Array.getElem?_eq_some_iff.1 hblk).1⟩⟩
  obtain ⟨g, cap, rfl, rfl⟩ := hlv
  refine ⟨.arr sz g (n + m) cap, hm.push hg.size keep ?_ ?_, ⟨fun _ h => h, (ext_append F w B _).pl, fun b hb => keep b (.inl hb)⟩, ⟨hg.os, hg.tape, hg.output, hg.size, fun b hb ho => hg.block b hb (fun e => ho (hr b e.symm).1)⟩, .osl (sz := sz) (by rw [← hm.len]; simp)⟩
  · refine ⟨rfl, hsz, by simp [hn, hm2], hs, xs ++ news, hrow, ?_⟩
    rw [AV.cellsAll_append]
    exact (h1.append h2).mono e0
  · intro _ b hb
    obtain ⟨hob, hlt⟩ := hlb b hb
    rcases hv b hob with hr' | hge
    · obtain ⟨h3, h4, h5⟩ := hr b hr'
      exact ⟨h5, h4, hlt, h3⟩
    · exact ⟨(hm.fresh hge).1, (hm.fresh hge).2, hlt, hO b hge⟩

theorem CR.onesAll {es : List AV} {xs : List Value} (h : CR F w B (AV.cellsAll es) xs) (hs : es.all AV.shaped = true) : ∀ u ∈ xs, u.oneCell' = true := by
  refine CR.ones h ?_
  induction es generalizing xs with
  | nil => rfl
  | cons e es ih =>
    simp only [List.all_cons, Bool.and_eq_true] at hs
    simp only [AV.cellsAll, List.all_append, Bool.and_eq_true]
    obtain ⟨x1, x2, _, _, h2⟩ := CR.splitL h
    refine ⟨?_, ih h2 hs.2⟩
    rw [List.all_eq_true]
    exact shaped_one hs.1

theorem run_append_none (t ty e : TypeId) (i : TypeInfo) (ht : P.underlying t = some (.slice e)) (hi : P.info? e = some i) {size n c : Nat} {v : Value} {xs : List Value} (hs : i.size = size) (hown : w.ownsRow 0 e size v n xs) (base : Option Addr) :
    (Builtin.append_ #[t, t] ty #[v, .slice base 0 c]).run P w = .ok v w := by
  have key : ∀ b cap, v = .slice b n cap → n ≤ cap → (Builtin.append_ #[t, t] ty #[.slice b n cap, .slice base 0 c]).run P w = .ok (.slice b n cap) w := by
    intro b cap _ hle
    cases base <;> cases b <;> simp [Builtin.append_, run_under ht, sizeOf, typeInfo, hi, Builtin.lenOf, Builtin.firstCells, hle, loadCells, loadCellsFrom, storeCells]
  rcases hown.2 with ⟨rfl, rfl⟩ | ⟨g, cap, cur, rfl, _, _, hnc, _⟩
  · exact key none 0 rfl (Nat.le_refl _)
  · exact key _ cap rfl hnc

theorem info_of {t : TypeId} {n : Nat} (h : szOf P t = some n) : ∃ i, P.info? t = some i ∧ i.size = n := by
  unfold szOf at h
  cases hi : P.info? t with
  | none => simp [hi] at h
  | some i => simp [hi] at h; exact ⟨i, rfl, h⟩

/-- An append, from any source: the slice behind it lies where it lay, or in a block that is new. -/
theorem run_app {t u ty e : TypeId} {i : TypeInfo} {z : Value} {sz byt n m : Nat} {v x : Value} {xs news : List Value} {d : TypeDesc} (ht : P.underlying t = some (.slice e)) (hi : P.info? e = some i) (hz : i.zero = some z)
    (hsize : i.size = sz) (hby : i.bytes = byt) (hzs : z.cells.size = sz) (hu : P.underlying u = some d) (hd : d = .string ∨ ∃ e', d = .slice e') (hown : w.ownsRow 0 e sz v n xs)
    (hx1 : Builtin.lenOf x = pure m) (hx2 : ∀ w1 : World, w1.heap = w.heap → (Builtin.firstCells sz m x).run P w1 = .ok news.toArray w1) (hl : news.length = m * sz) (ho : ∀ u ∈ news, u.oneCell' = true)
    (h1 : (n + m) * byt ≤ 140737488355328) (h2 : n + m ≤ 140737488355328) :
    ∃ v' w', (Builtin.append_ #[t, u] ty #[v, x]).run P w = .ok v' w' ∧ w'.ownsRow 0 e sz v' (n + m) (xs ++ news) ∧ w.grownBy w' v.ownBlock ∧ (∀ b, v'.ownBlock = some b → v.ownBlock = some b ∨ w.heap.size ≤ b) := by
  subst hsize
  subst hby
  have hlen : (xs ++ news).length = (n + m) * i.size := by rw [List.length_append, hown.1, hl, Nat.add_mul]
  have h63 : n + m ≤ maxLen := by simp only [maxLen]; omega
  have grow : ∀ (b0 : Option Addr) (cap : Nat), cap < n + m → (∀ w1 : World, w1.heap = w.heap → (Builtin.firstCells i.size n (.slice b0 n cap)).run P w1 = .ok xs.toArray w1) →
      ∃ v' w', (Builtin.append_ #[t, u] ty #[.slice b0 n cap, x]).run P w = .ok v' w' ∧ w'.ownsRow 0 e i.size v' (n + m) (xs ++ news) ∧ w.grownBy w' (Value.slice b0 n cap).ownBlock ∧ (∀ b, v'.ownBlock = some b → (Value.slice b0 n cap).ownBlock = some b ∨ w.heap.size ≤ b) := by
    intro b0 cap hcap hf
    have hge := grownCap_ge w (n + m) cap e
    have hcm : grownCap w (n + m) cap e ≤ maxLen := grownCap_le_maxLen w (n + m) cap e h63
    have hn : ¬ (n + m ≤ cap) := by omega
    have h63' : ¬ (9223372036854775807 < ((n : Int) + (m : Int))) := by omega
    have hfit : Builtin.nextslicecap (n + m) cap * i.bytes ≤ 281474976710656 := growslice_fits (by omega) h1
    have h48' : ¬ (281474976710656 < Builtin.nextslicecap (n + m) cap * i.bytes) := by omega
    refine ⟨.slice (some ⟨w.heap.size, 0, none⟩) (n + m) (grownCap w (n + m) cap e), w.drew.alloc (.cells (xs.toArray ++ news.toArray ++ Builtin.zeroCells z.cells (grownCap w (n + m) cap e - (n + m))) e), ?_,
      ⟨hlen, .inr ⟨w.heap.size, _, _, rfl, Nat.zero_le _, alloc_new w.drew _, hge, hcm, ?_, ?_⟩⟩, ⟨rfl, rfl, rfl, by simp, fun k hk _ => alloc_old w.drew _ k hk⟩, fun b hb => by cases hb; exact .inr (Nat.le_refl _)⟩
    · have hf' := hf w.drew rfl
      have hx2' := hx2 w.drew rfl
      rcases hd with rfl | ⟨e', rfl⟩ <;> simp [Builtin.append_, run_under ht, run_under hu, sizeOf, typeInfo, zeroValue, hi, hz, hx1, hn, h63', h48', Question.forced, hf', hx2', newRow, grownCap] <;> (congr 2; apply Array.ext'; simp [List.append_assoc])
    · simp only [Array.size_append, List.size_toArray, size_zeroCells, hzs, hown.1, hl, ← Nat.add_mul]
      congr 1
      omega
    · simp only [Array.toList_append, List.append_assoc]
      rw [← List.append_assoc, ← hlen]
      exact List.take_left
  rcases hown.2 with ⟨rfl, rfl⟩ | ⟨g, cap, cur, rfl, _, hg, hnc, hcm, hcs, htk⟩
  · have hx : xs = [] := List.eq_nil_of_length_eq_zero (by simpa using hown.1)
    subst hx
    by_cases hm : m = 0
    · subst hm
      have hn : news = [] := List.eq_nil_of_length_eq_zero (by simpa using hl)
      subst hn
      refine ⟨.slice none 0 0, w, ?_, World.ownsRow_nil w 0 e i.size, ⟨rfl, rfl, rfl, Nat.le_refl _, fun _ _ _ => rfl⟩, fun b hb => by cases hb⟩
      have hx2' := hx2 w rfl
      rcases hd with rfl | ⟨e', rfl⟩ <;> simp [Builtin.append_, run_under ht, run_under hu, sizeOf, typeInfo, hi, hx1, hx2']
    · exact grow none 0 (by omega) (fun w1 _ => by simp [Builtin.firstCells])
  · by_cases hroom : n + m ≤ cap
    · have hfit : n * i.size + news.length ≤ cur.size := by rw [hl, hcs, ← Nat.add_mul]; exact Nat.mul_le_mul_right _ hroom
      have hst := run_storeCells_at P g (n * i.size) e news 0 cur w hg (by simpa using hfit) ho
      simp only [Nat.add_zero] at hst
      refine ⟨.slice (some ⟨g, 0, none⟩) (n + m) cap, w.setRow g (cur.toList.take (n * i.size) ++ news ++ cur.toList.drop (n * i.size + news.length)).toArray, ?_,
        ⟨hlen, .inr ⟨g, cap, _, rfl, Nat.zero_le _, setRow_heap w g cur _ e _ hg, hroom, hcm, ?_, ?_⟩⟩, ⟨rfl, rfl, rfl, by simp, fun k _ hk => setRow_other w g k _ (fun e => hk (by simp [Value.ownBlock, e]))⟩, fun b hb => .inl hb⟩
      · have hx2' := hx2 w rfl
        rcases hd with rfl | ⟨e', rfl⟩ <;> simp [Builtin.append_, run_under ht, run_under hu, sizeOf, typeInfo, hi, hx1, hroom, hx2', Addr.add_lit, hst]
      · simp only [List.size_toArray, List.length_append, List.length_take, List.length_drop, Array.length_toList]
        omega
      · rw [htk, ← hlen]
        exact List.take_left
    · have holds : ∀ j u, xs[j]? = some u → w.cell? ((⟨g, 0, none⟩ : Addr).add j) = some u := hown.cells (g := g) rfl
      exact grow (some ⟨g, 0, none⟩) cap (by omega) (fun w1 hw1 => run_firstCells_some (P := P) w1 i.size n ⟨g, 0, none⟩ n cap xs hown.1 (fun j u hj => by
        have := holds j u hj
        simpa [World.cell?, hw1] using this))

/-- A stretch of a block of the call's own, from a cell on. -/
def ownsW (w : World) (e : TypeId) (sz b off n cap : Nat) (xs : List Value) : Prop :=
  n ≤ cap ∧ cap ≤ maxLen ∧ xs.length = n * sz ∧ ∃ cur, w.heap[b]? = some (.cells cur e (0, 0)) ∧ off + cap * sz ≤ cur.size ∧ (cur.toList.drop off).take (n * sz) = xs

theorem drop_splice (l new : List Value) (off k : Nat) (hk : off + k + new.length ≤ l.length) : ((l.take (off + k) ++ new ++ l.drop (off + k + new.length)).drop off).take (k + new.length) = (l.drop off).take k ++ new := by
  rw [List.append_assoc, List.drop_append_of_le_length (by simp; omega), List.drop_take, show off + k - off = k by omega]
  have h1 : ((l.drop off).take k).length = k := by simp; omega
  rw [List.take_append, h1, List.take_of_length_le (by omega), show k + new.length - k = new.length by omega, List.take_append_of_le_length (Nat.le_refl _), List.take_length]

theorem run_appY {t u ty e : TypeId} {i : TypeInfo} {z : Value} {sz byt n m b off cap : Nat} {x : Value} {xs news : List Value} {d : TypeDesc} (ht : P.underlying t = some (.slice e)) (hi : P.info? e = some i) (hz : i.zero = some z)
    (hsize : i.size = sz) (hby : i.bytes = byt) (hzs : z.cells.size = sz) (hu : P.underlying u = some d) (hd : d = .string ∨ ∃ e', d = .slice e') (hown : ownsW w e sz b off n cap xs)
    (hx1 : Builtin.lenOf x = pure m) (hx2 : ∀ w1 : World, w1.heap = w.heap → (Builtin.firstCells sz m x).run P w1 = .ok news.toArray w1) (hl : news.length = m * sz) (ho : ∀ u ∈ news, u.oneCell' = true)
    (h1 : (n + m) * byt ≤ 140737488355328) (h2 : n + m ≤ 140737488355328) :
    ∃ b' off' cap' w', (Builtin.append_ #[t, u] ty #[.slice (some ⟨b, off, none⟩) n cap, x]).run P w = .ok (.slice (some ⟨b', off', none⟩) (n + m) cap') w' ∧ ownsW w' e sz b' off' (n + m) cap' (xs ++ news) ∧ w.grownBy w' (some b) ∧ (b' = b ∨ w.heap.size ≤ b') := by
  subst hsize
  subst hby
  obtain ⟨hnc, hcm, hxl, cur, hg, hsz, htk⟩ := hown
  have hlen : (xs ++ news).length = (n + m) * i.size := by rw [List.length_append, hxl, hl, Nat.add_mul]
  have h63 : n + m ≤ maxLen := by simp only [maxLen]; omega
  by_cases hroom : n + m ≤ cap
  · have hmul : (n + m) * i.size ≤ cap * i.size := Nat.mul_le_mul_right _ hroom
    have hfit : off + n * i.size + news.length ≤ cur.size := by rw [hl]; rw [Nat.add_mul] at hmul; omega
    have hst := run_storeCells_at P b (off + n * i.size) e news 0 cur w hg (by simpa using hfit) ho
    simp only [Nat.add_zero] at hst
    refine ⟨b, off, cap, w.setRow b (cur.toList.take (off + n * i.size) ++ news ++ cur.toList.drop (off + n * i.size + news.length)).toArray, ?_,
      ⟨hroom, hcm, hlen, _, setRow_heap w b cur _ e _ hg, ?_, ?_⟩, ⟨rfl, rfl, rfl, by simp, fun k _ hk => setRow_other w b k _ (fun e => hk (by rw [e]))⟩, .inl rfl⟩
    · have hx2' := hx2 w rfl
      rcases hd with rfl | ⟨e', rfl⟩ <;> simp [Builtin.append_, run_under ht, run_under hu, sizeOf, typeInfo, hi, hx1, hroom, hx2', add_plain, hst]
    · simp only [List.size_toArray, List.length_append, List.length_take, List.length_drop, Array.length_toList]
      omega
    · have hds := drop_splice cur.toList news off (n * i.size) (by simpa using hfit)
      rw [show (n + m) * i.size = n * i.size + news.length by rw [hl, Nat.add_mul], hds, htk]
  · have hge := grownCap_ge w (n + m) cap e
    have hcm2 : grownCap w (n + m) cap e ≤ maxLen := grownCap_le_maxLen w (n + m) cap e h63
    have h63' : ¬ (9223372036854775807 < ((n : Int) + (m : Int))) := by omega
    have hfit : Builtin.nextslicecap (n + m) cap * i.bytes ≤ 281474976710656 := growslice_fits (by omega) h1
    have h48' : ¬ (281474976710656 < Builtin.nextslicecap (n + m) cap * i.bytes) := by omega
    have holds : ∀ j u, xs[j]? = some u → w.cell? ((⟨b, off, none⟩ : Addr).add j) = some u := by
      intro j u hj
      rw [← htk, List.getElem?_take] at hj
      split at hj
      · rw [List.getElem?_drop] at hj
        rw [add_plain]
        simp only [World.cell?, hg]
        simpa using hj
      · cases hj
    refine ⟨w.heap.size, 0, grownCap w (n + m) cap e, w.drew.alloc (.cells (xs.toArray ++ news.toArray ++ Builtin.zeroCells z.cells (grownCap w (n + m) cap e - (n + m))) e), ?_,
      ⟨hge, hcm2, hlen, _, alloc_new w.drew _, ?_, ?_⟩, ⟨rfl, rfl, rfl, by simp, fun k hk _ => alloc_old w.drew _ k hk⟩, .inr (Nat.le_refl _)⟩
    · have hf' := run_firstCells_some (P := P) w.drew i.size n ⟨b, off, none⟩ n cap xs hxl (fun j u hj => by
        have hd : w.drew.heap = w.heap := rfl
        have := holds j u hj
        simpa [World.cell?, hd] using this)
      have hx2' := hx2 w.drew rfl
      rcases hd with rfl | ⟨e', rfl⟩ <;> simp [Builtin.append_, run_under ht, run_under hu, sizeOf, typeInfo, zeroValue, hi, hz, hx1, hroom, h63', h48', Question.forced, hf', hx2', newRow, grownCap] <;> (congr 2; apply Array.ext'; simp [List.append_assoc])
    · simp only [Array.size_append, List.size_toArray, size_zeroCells, hzs, hxl, hl, ← Nat.add_mul, Nat.zero_add]
      refine Nat.le_of_eq ?_
      congr 1
      omega
    · simp only [Array.toList_append, List.append_assoc, List.drop_zero]
      rw [← List.append_assoc, ← hlen]
      exact List.take_left

/-- The source of an append: a slice of any kind. -/
theorem src_slice {x : AV} {y : Value} {sz2 sz : Nat} {es2 : List AV} (h : elems mem x = some (sz2, es2)) (hm : MR O F w B mem) (hv : VR F w B x y) (hs : sz2 = sz ∨ es2 = []) (hsh : es2.all AV.shaped = true) :
    ∃ news, Builtin.lenOf y = pure es2.length ∧ (∀ w1 : World, w1.heap = w.heap → (Builtin.firstCells sz es2.length y).run P w1 = .ok news.toArray w1) ∧ news.length = es2.length * sz ∧ (∀ u ∈ news, u.oneCell' = true) ∧
      CR F w [] (AV.cellsAll es2) news ∧ ∀ e ∈ es2, e.cells.length = sz := by
  obtain ⟨base, cap, rfl, hsz, hr⟩ := elems_ok h hm hv
  by_cases hne : es2 = []
  · subst hne
    refine ⟨[], rfl, fun w1 _ => ?_, by simp, by simp, .nil, by simp⟩
    cases base <;> simp [Builtin.firstCells, loadCells, loadCellsFrom]
  · have hs' : sz2 = sz := hs.resolve_right hne
    subst hs'
    obtain ⟨b, p, ys, rfl, hc, hcell⟩ := hr hne
    have hl : ys.length = es2.length * sz2 := by rw [hc.length, AV.cellsAll_length hsz]
    refine ⟨ys, rfl, fun w1 hw1 => run_firstCells_some (P := P) w1 sz2 es2.length ⟨b, p, none⟩ es2.length cap ys hl (fun j u hj => ?_), hl, hc.onesAll hsh, hc, hsz⟩
    rw [add_plain]
    have := hcell j u hj
    simpa [World.cell?, hw1] using this

end
end Go.Proofs.YtajpaagbfmjacaaGreatDoor.Am
/-
  THE ABSTRACT MACHINE, SEVENTH PART: appends, slices that are given away, and what a call is handed. No program is named here.
-/
namespace Go.Proofs.YtajpaagbfmjacaaGreatDoor.Am
set_option linter.unusedSimpArgs false
set_option linter.unusedVariables false
open Go
section
variable {P : Program} {O F F' : Nat → Prop} {w w' : World} {B B' : List Loc} {ts : Nat → AV} {mem mem' : List Blk} {a : Act} {o : Oper}

/-- What an owned slice is. -/
theorem own_inv {id t sz : Nat} {es : List AV} {y : Value} (hi : mem[id]? = some (.arr t sz es)) (hm : MR O F w B mem) (hv : VR F w B (.osl id) y) :
    0 < sz ∧ (∀ e ∈ es, e.cells.length = sz) ∧ (∃ xs, w.ownsRow 0 t sz y es.length xs ∧ CR F w [] (AV.cellsAll es) xs) ∧ ∀ b, y.ownBlock = some b → ownB mem B id = some b := by
  have hlt := (List.getElem?_eq_some_iff.1 hi).1
  obtain ⟨l, hl⟩ : ∃ l, B[id]? = some l := ⟨_, List.getElem?_eq_getElem (by rw [hm.len]; exact hlt)⟩
  have hbr := hm.br id _ l hi hl
  match l, hbr, hl with
  | .arr sz' g n cap, ⟨h1, h2, h3, h4, h5⟩, hl =>
    subst h1; subst h3
    cases hv with
    | omap h => rw [hl] at h; cases h
    | oslW h => rw [hl] at h; cases h
    | osl h =>
      rw [hl] at h; cases h
      exact ⟨h2, h4, h5, fun b hb => ownB_mk hi hl rfl (by cases g <;> simp [head, Value.ownBlock, Loc.block] at hb ⊢; exact hb)⟩

theorem ownB_forget {id : Nat} {j b : Nat} (h : ownB (mem.set id .gone) B j = some b) : j ≠ id ∧ ownB mem B j = some b := by
  obtain ⟨k', l', h1, h2, h3, h4⟩ := ownB_some h
  by_cases hij : id = j
  · subst hij
    by_cases hlt : id < mem.length
    · rw [List.getElem?_set_self hlt] at h1; cases h1; cases h3
    · rw [List.getElem?_eq_none (by simp; omega)] at h1; cases h1
  · rw [List.getElem?_set_ne hij] at h1
    exact ⟨fun e => hij e.symm, ownB_mk h1 h2 h3 h4⟩

theorem go_appG (s x : Operand) (t u e : TypeId) (i : TypeInfo) (z : Value) (id : Option Nat) (es es2 : List AV) (d : TypeDesc) (news : List Value) (m : Nat)
    (ho : o.op = .call { callee := .builtin .append, args := #[s, x], argTypes := #[t, u] }) (ht1 : P.underlying t = some (.slice e)) (hi : P.info? e = some i) (hz : i.zero = some z) (hzs : z.cells.size = i.size) (hsz : i.size ≠ 0)
    (hu : P.underlying u = some d) (hd : d = .string ∨ ∃ e', d = .slice e')
    (hs : (∃ k, id = some k ∧ (compOpd s).ev ts = .osl k ∧ mem[k]? = some (.arr e i.size es)) ∨ (id = none ∧ (compOpd s).ev ts = .v (.slice none 0 0) ∧ es = []))
    (hx1 : Builtin.lenOf (a.eval x) = pure m) (hx2 : ∀ w1 : World, w1.heap = w.heap → (Builtin.firstCells i.size m (a.eval x)).run P w1 = .ok news.toArray w1) (hl : news.length = m * i.size) (ho1 : ∀ u ∈ news, u.oneCell' = true)
    (hm2 : m = es2.length) (hc2 : CR F w [] (AV.cellsAll es2) news) (hs2 : ∀ e ∈ es2, e.cells.length = i.size)
    (h1 : (es.length + es2.length) * i.bytes ≤ 140737488355328) (h2 : es.length + es2.length ≤ 140737488355328)
    (hO : ∀ b, w.heap.size ≤ b → O b) (hm : MR O F w B mem) (ht : TR F w B ts a) :
    Goes P O F w B o a (.ret (.osl mem.length)) ((match id with | some k => mem.set k .gone | none => mem) ++ [.arr e i.size (es ++ es2)]) := by
  subst hm2
  have hv := opd_ok ht s
  rcases hs with ⟨k, rfl, hs, hk⟩ | ⟨rfl, hs, rfl⟩
  · rw [hs] at hv
    obtain ⟨q1, q2, ⟨xs, q3, q4⟩, q5⟩ := own_inv hk hm hv
    obtain ⟨v', w', r1, r2, r3, r4⟩ := run_app (ty := o.type) ht1 hi hz rfl rfl hzs hu hd q3 hx1 hx2 hl ho1 h1 h2
    have hmf := hm.forget k
    obtain ⟨l, m1, m2, m3, m4⟩ := own_append (O := O) (mem := mem.set k .gone) (row := (a.eval s).ownBlock) hmf hO q1 r2 r3 rfl rfl q4 hc2
      (fun e he => by rcases List.mem_append.1 he with he | he; exact q2 e he; exact hs2 e he)
      (fun b hb => by
        have hown := q5 b hb
        obtain ⟨g1, g2, _⟩ := hm.own k b hown
        exact ⟨g1, g2, fun j hj => by obtain ⟨g3, g4⟩ := ownB_forget hj; exact g3 (hm.sep j k b g4 hown)⟩)
      (fun b hb => r4 b hb)
    simp only [List.length_set] at m4
    refine .value (x := v') (w' := w') ?_ m1 m2 m3 (fun _ h => .inl h) m4
    simp only [execOp, ho, resolve, invoke, builtin, Sem.run_bind, Sem.run_pure, Result.andThen_ok, List.map_toArray, List.map_cons, List.map_nil, r1]
  · rw [hs] at hv
    have hv0 := hv.of_v
    have q3 : w.ownsRow 0 e i.size (a.eval s) 0 [] := by rw [hv0]; exact World.ownsRow_nil w 0 e i.size
    simp only [List.length_nil, Nat.zero_add] at h1 h2
    obtain ⟨v', w', r1, r2, r3, r4⟩ := run_app (ty := o.type) ht1 hi hz rfl rfl hzs hu hd q3 hx1 hx2 hl ho1 (by simpa using h1) (by simpa using h2)
    obtain ⟨l, m1, m2, m3, m4⟩ := own_append (O := O) (mem := mem) (row := (a.eval s).ownBlock) (es := []) hm hO (Nat.pos_of_ne_zero hsz) r2 r3 rfl rfl .nil hc2
      (fun e he => hs2 e (by simpa using he))
      (fun b hb => by rw [hv0] at hb; cases hb)
      (fun b hb => r4 b hb)
    refine .value (x := v') (w' := w') ?_ m1 m2 m3 (fun _ h => .inl h) m4
    simp only [execOp, ho, resolve, invoke, builtin, Sem.run_bind, Sem.run_pure, Result.andThen_ok, List.map_toArray, List.map_cons, List.map_nil, r1]

theorem go_appY (s x : Operand) (t u e : TypeId) (i : TypeInfo) (z : Value) (k : Nat) (es es2 : List AV) (d : TypeDesc) (news : List Value) (m : Nat)
    (ho : o.op = .call { callee := .builtin .append, args := #[s, x], argTypes := #[t, u] }) (ht1 : P.underlying t = some (.slice e)) (hi : P.info? e = some i) (hz : i.zero = some z) (hzs : z.cells.size = i.size)
    (hu : P.underlying u = some d) (hd : d = .string ∨ ∃ e', d = .slice e') (hs : (compOpd s).ev ts = .osl k) (hk : mem[k]? = some (.wrr e i.size es))
    (hx1 : Builtin.lenOf (a.eval x) = pure m) (hx2 : ∀ w1 : World, w1.heap = w.heap → (Builtin.firstCells i.size m (a.eval x)).run P w1 = .ok news.toArray w1) (hl : news.length = m * i.size) (ho1 : ∀ u ∈ news, u.oneCell' = true)
    (hm2 : m = es2.length) (hc2 : CR F w [] (AV.cellsAll es2) news) (hs2 : ∀ e ∈ es2, e.cells.length = i.size)
    (h1 : (es.length + es2.length) * i.bytes ≤ 140737488355328) (h2 : es.length + es2.length ≤ 140737488355328)
    (hO : ∀ b, w.heap.size ≤ b → O b) (hm : MR O F w B mem) (ht : TR F w B ts a) :
    Goes P O F w B o a (.ret (.osl mem.length)) (mem.set k .gone ++ [.wrr e i.size (es ++ es2)]) := by
  subst hm2
  have hv := opd_ok ht s
  rw [hs] at hv
  obtain ⟨b, off, cap, cur, xs, ex, q1, q2, q3, q4, q5, q6, q7, q8, q9, q10⟩ := wrr_inv hk hm hv
  have hxl : xs.length = es.length * i.size := by rw [q8.length, AV.cellsAll_length q4]
  obtain ⟨b', off', cap', w', r1, r2, r3, r4⟩ := run_appY (ty := o.type) ht1 hi hz rfl rfl hzs hu hd ⟨q2, q3, hxl, cur, q5, q6, q7⟩ hx1 hx2 hl ho1 h1 h2
  obtain ⟨s1, s2, s3, cur', s4, s5, s6⟩ := r2
  obtain ⟨g1, g2, _⟩ := hm.own k b q9
  have hmf := hm.forget k
  have gone : ∀ j c, ownB (mem.set k .gone) B j = some c → c ≠ b := fun j c hj ec => by
    obtain ⟨g3, g4⟩ := ownB_forget hj
    subst ec
    exact g3 (hm.sep j k c g4 q9)
  have keep : ∀ c, (F c ∨ ∃ j, ownB (mem.set k .gone) B j = some c) → w'.heap[c]? = w.heap[c]? := fun c hc => r3.block c (hmf.old hc) (fun e => by
    cases e
    rcases hc with hc | ⟨j, hc⟩
    · exact g2 hc
    · exact gone j b hc rfl)
  have e0 : Ext F F w w' [] [] := ⟨fun _ h => h, fun _ _ h => h, fun c hc => keep c (.inl hc)⟩
  refine .value (x := .slice (some ⟨b', off', none⟩) (es.length + es2.length) cap') (w' := w') (F' := F) (B' := B ++ [.wrr i.size b' off' (es.length + es2.length) cap']) ?_ ?_
    ⟨fun _ h => h, (ext_append F w B _).pl, fun c hc => keep c (.inl hc)⟩ ⟨r3.os, r3.tape, r3.output, r3.size, fun c hc ho => r3.block c hc (fun e => by cases e; exact ho g1)⟩ (fun _ h => .inl h) (.oslW (sz := i.size) (by rw [← hm.len]; simp))
  · simp only [execOp, ho, resolve, invoke, builtin, Sem.run_bind, Sem.run_pure, Result.andThen_ok, List.map_toArray, List.map_cons, List.map_nil, ex, r1]
  · refine hmf.push r3.size keep ⟨rfl, q1, by simp, s1, s2, fun e he => ?_, cur', xs ++ news, s4, s5, s6, ?_⟩ (fun _ c hc => ?_)
    · rcases List.mem_append.1 he with he | he
      · exact q4 e he
      · exact hs2 e he
    · rw [AV.cellsAll_append]
      exact (q8.append hc2).mono e0
    · cases hc
      have hlt : b' < w'.heap.size := (Array.getElem?_eq_some_iff.1 s4).1
      rcases r4 with rfl | hge
      · exact ⟨fun j hj => gone j b' hj rfl, g2, hlt, g1⟩
      · exact ⟨(hmf.fresh hge).1, (hmf.fresh hge).2, hlt, hO b' hge⟩

/-! ### Slices that are given away -/
def Sl (mem : List Blk) (id t sz : Nat) (es : List AV) : Prop := mem[id]? = some (.arr t sz es) ∨ mem[id]? = some (.wrr t sz es)
def FI (F : Nat → Prop) (mem : List Blk) (B : List Loc) (ids : List Nat) : Nat → Prop := fun b => F b ∨ ∃ i ∈ ids, ownB mem B i = some b ∧ ∃ t sz es, Sl mem i t sz es

theorem fsl_of_own {id t sz : Nat} {es : List AV} {y : Value} (hi : mem[id]? = some (.arr t sz es)) (hm : MR O F w B mem) (hv : VR F w B (.osl id) y) {G : Nat → Prop} (hG : ∀ b, F b → G b) (hGb : ∀ b, ownB mem B id = some b → G b) (B2 : List Loc) :
    VR G w B2 (.fsl sz es) y := by
  obtain ⟨q1, q2, ⟨xs, q3, q4⟩, q5⟩ := own_inv hi hm hv
  have e : Ext F G w w [] [] := ⟨hG, fun _ _ h => h, fun _ _ => rfl⟩
  rcases q3.2 with ⟨rfl, h0⟩ | ⟨g, cap, cur, rfl, _, hblk, hnc, _, hcs, htk⟩
  · have := List.eq_nil_of_length_eq_zero h0; subst this; exact .fslNil none 0
  · refine .fsl g 0 cap (q4.mono e) q2 (hGb g (q5 g rfl)) (fun j x hj => ?_) hnc
    have := q3.cells (g := g) rfl j x hj
    rwa [add_plain] at this

theorem fsl_of_sl {id t sz : Nat} {es : List AV} {y : Value} (hi : Sl mem id t sz es) (hm : MR O F w B mem) (hv : VR F w B (.osl id) y) {G : Nat → Prop} (hG : ∀ b, F b → G b) (hGb : ∀ b, ownB mem B id = some b → G b) (B2 : List Loc) :
    VR G w B2 (.fsl sz es) y := by
  rcases hi with hi | hi
  · exact fsl_of_own hi hm hv hG hGb B2
  · obtain ⟨b, off, cap, cur, xs, rfl, q1, q2, q3, q4, q5, q6, q7, q8, q9, q10⟩ := wrr_inv hi hm hv
    have e : Ext F G w w [] [] := ⟨hG, fun _ _ h => h, fun _ _ => rfl⟩
    refine .fsl b off cap (q8.mono e) q4 (hGb b q9) (fun j x hj => ?_) q2
    rw [← q7, List.getElem?_take] at hj
    split at hj
    · rw [List.getElem?_drop] at hj
      simp only [World.cell?, q5]
      simpa using hj
    · cases hj

theorem MR.freeze (h : MR O F w B mem) (id : Nat) {G : Nat → Prop} (hG : ∀ b, G b ↔ F b ∨ (ownB mem B id = some b ∧ ∃ t sz es, Sl mem id t sz es)) : MR O G w B (mem.modify id Blk.freeze) := by
  have e : Ext F G w w B B := ⟨fun b hb => (hG b).2 (.inl hb), fun _ _ h => h, fun _ _ => rfl⟩
  have at_ : ∀ j b, (mem.modify id Blk.freeze)[j]? = some b → (j ≠ id ∧ mem[j]? = some b) ∨ (j = id ∧ ∃ b0, mem[id]? = some b0 ∧ b = b0.freeze) := by
    intro j b hj
    rw [List.getElem?_modify] at hj
    by_cases hij : id = j
    · subst hij
      right
      cases hb : mem[id]? with
      | none => simp [hb] at hj
      | some b0 => simp [hb] at hj; exact ⟨rfl, b0, rfl, hj.symm⟩
    · simp [hij] at hj; exact .inl ⟨fun e => hij e.symm, hj⟩
  have own_ : ∀ j b, ownB (mem.modify id Blk.freeze) B j = some b → ownB mem B j = some b ∧ ¬ (j = id ∧ ∃ t sz es, Sl mem id t sz es) := by
    intro j b hj
    obtain ⟨k, l, h1, h2, h3, h4⟩ := ownB_some hj
    rcases at_ j k h1 with ⟨hne, h5⟩ | ⟨rfl, b0, h5, rfl⟩
    · exact ⟨ownB_mk h5 h2 h3 h4, fun hh => hne hh.1⟩
    · cases b0 with
      | arr t sz es => cases h3
      | var cs => exact ⟨ownB_mk h5 h2 rfl h4, fun ⟨_, t, sz, es, h6⟩ => by rcases h6 with h6 | h6 <;> (rw [h5] at h6; cases h6)⟩
      | tvar t cs => exact ⟨ownB_mk h5 h2 rfl h4, fun ⟨_, t, sz, es, h6⟩ => by rcases h6 with h6 | h6 <;> (rw [h5] at h6; cases h6)⟩
      | buf t sz es => exact ⟨ownB_mk h5 h2 rfl h4, fun ⟨_, t, sz, es, h6⟩ => by rcases h6 with h6 | h6 <;> (rw [h5] at h6; cases h6)⟩
      | map es => exact ⟨ownB_mk h5 h2 rfl h4, fun ⟨_, t, sz, es, h6⟩ => by rcases h6 with h6 | h6 <;> (rw [h5] at h6; cases h6)⟩
      | wrr t sz es => cases h3
      | gone => cases h3
      | frz a => cases h3
  refine ⟨by simp [h.len], ?_, fun i j b hi hj => h.sep i j b (own_ i b hi).1 (own_ j b hj).1, ?_, ?_, h.gl.same fun b hb => (hG b).2 (.inl hb)⟩
  · intro j b l hj hl
    rcases at_ j b hj with ⟨hne, h5⟩ | ⟨rfl, b0, h5, rfl⟩
    · exact (h.br j b l h5 hl).mono e (fun _ _ _ => rfl)
    · cases b0 with
      | arr t sz es =>
        have hbr := h.br j _ l h5 hl
        match l, hbr, hl with
        | .arr sz' g n cap, hb, hl =>
          exact fsl_of_own h5 h (.osl hl) (fun b hb => (hG b).2 (.inl hb)) (fun b hb => (hG b).2 (.inr ⟨hb, t, sz, es, .inl h5⟩)) []
      | var cs => exact (h.br j _ l h5 hl).mono e (fun _ _ _ => rfl)
      | tvar t cs => exact (h.br j _ l h5 hl).mono e (fun _ _ _ => rfl)
      | buf t sz es => exact (h.br j _ l h5 hl).mono e (fun _ _ _ => rfl)
      | map es => exact (h.br j _ l h5 hl).mono e (fun _ _ _ => rfl)
      | wrr t sz es =>
        have hbr := h.br j _ l h5 hl
        match l, hbr, hl with
        | .wrr sz' b off n cap, hb, hl =>
          exact fsl_of_sl (.inr h5) h (.oslW hl) (fun b hb => (hG b).2 (.inl hb)) (fun b hb => (hG b).2 (.inr ⟨hb, t, sz, es, .inr h5⟩)) []
      | gone => trivial
      | frz a => exact (h.br j _ l h5 hl).mono e (fun _ _ _ => rfl)
  · intro j b hj
    obtain ⟨h1, h2⟩ := own_ j b hj
    obtain ⟨g1, g2, g3⟩ := h.own j b h1
    refine ⟨g1, fun hb => ?_, g3⟩
    rcases (hG b).1 hb with hb | ⟨hb, hh⟩
    · exact g2 hb
    · exact h2 ⟨h.sep j id b h1 hb, hh⟩
  · intro b hb
    rcases (hG b).1 hb with hb | ⟨hb, _⟩
    · exact h.fr b hb
    · exact (h.own id b hb).2.2

/-- Many slices are given away. -/
theorem MR.freezes' : ∀ (ids : List Nat) {F : Nat → Prop} {mem : List Blk}, MR O F w B mem →
    ∃ G : Nat → Prop, MR O G w B (freezeIds ids mem) ∧ (∀ b, F b → G b) ∧ (∀ b, G b → F b ∨ ∃ i, ownB mem B i = some b) ∧ (∀ id ∈ ids, ∀ b t sz es, Sl mem id t sz es → ownB mem B id = some b → G b)
  | [], F, mem, h => ⟨F, h, fun _ h => h, fun _ h => .inl h, fun _ h => by cases h⟩
  | id :: ids, F, mem, h => by
    obtain ⟨G, g1, g2, g3, g4⟩ := MR.freezes' ids (h.freeze id (G := fun b => F b ∨ (ownB mem B id = some b ∧ ∃ t sz es, Sl mem id t sz es)) (fun _ => Iff.rfl))
    refine ⟨G, g1, fun b hb => g2 b (.inl hb), fun b hb => ?_, fun j hj b t sz es hmj hown => ?_⟩
    · rcases g3 b hb with hb | ⟨i, hb⟩
      · rcases hb with hb | ⟨hb, _⟩
        · exact .inl hb
        · exact .inr ⟨id, hb⟩
      · obtain ⟨k, l, h1, h2, h3, h4⟩ := ownB_some hb
        rw [List.getElem?_modify] at h1
        by_cases hij : id = i
        · subst hij
          cases hm : mem[id]? with
          | none => simp [hm] at h1
          | some b0 =>
            simp [hm] at h1
            refine .inr ⟨id, ownB_mk hm h2 ?_ h4⟩
            cases b0 <;> simp [Blk.freeze] at h1 <;> subst h1 <;> first | exact h3 | rfl
        · simp [hij] at h1
          exact .inr ⟨i, ownB_mk h1 h2 h3 h4⟩
    · by_cases hji : j = id
      · subst hji; exact g2 b (.inr ⟨hown, t, sz, es, hmj⟩)
      · cases hj with
        | head => exact absurd rfl hji
        | tail _ hj =>
          obtain ⟨k, l, h1, h2, h3, h4⟩ := ownB_some hown
          rcases hmj with hmj | hmj
          · have hk : (mem.modify id Blk.freeze)[j]? = some (.arr t sz es) := by rw [List.getElem?_modify]; simp [Ne.symm hji, hmj]
            rw [hmj] at h1; cases h1
            exact g4 j hj b t sz es (.inl hk) (ownB_mk hk h2 rfl h4)
          · have hk : (mem.modify id Blk.freeze)[j]? = some (.wrr t sz es) := by rw [List.getElem?_modify]; simp [Ne.symm hji, hmj]
            rw [hmj] at h1; cases h1
            exact g4 j hj b t sz es (.inr hk) (ownB_mk hk h2 rfl h4)

theorem MR.freezes (ids : List Nat) {F : Nat → Prop} {mem : List Blk} (h : MR O F w B mem) :
    ∃ G : Nat → Prop, MR O G w B (freezeIds ids mem) ∧ (∀ b, F b → G b) ∧ (∀ b, G b → F b ∨ O b) ∧ (∀ id ∈ ids, ∀ b t sz es, Sl mem id t sz es → ownB mem B id = some b → G b) := by
  obtain ⟨G, g1, g2, g3, g4⟩ := MR.freezes' ids h
  refine ⟨G, g1, g2, fun b hb => ?_, g4⟩
  rcases g3 b hb with hb | ⟨i, hb⟩
  · exact .inl hb
  · exact .inr (h.own i b hb).1

theorem up {G : Nat → Prop} (hG : ∀ b, F b → G b) {x : AV} {y : Value} (h : VR F w B x y) : VR G w B x y := h.mono ⟨hG, fun _ _ h => h, fun _ _ => rfl⟩

mutual
theorem frz_ok {G : Nat → Prop} (hm : MR O F w B mem) (hG : ∀ b, F b → G b) : ∀ (x : AV) (y : Value), VR F w B x y → (∀ id ∈ x.slices, ∀ b t sz es, Sl mem id t sz es → ownB mem B id = some b → G b) → VR G w B (x.frz mem) y
  | .any, y, h, _ => by simpa [AV.frz] using up hG h
  | .agg cs, y, h, hs => by
    obtain ⟨vs, rfl, hc⟩ := h.of_agg
    simp only [AV.frz]
    exact .agg (frzAll_ok hm hG cs vs hc (by simpa [AV.slices] using hs))
  | .tup cs, y, h, hs => by
    obtain ⟨vs, rfl, hc⟩ := h.of_tup
    simp only [AV.frz]
    exact .tup (frzAll_ok hm hG cs vs hc (by simpa [AV.slices] using hs))
  | .v v, y, h, _ => by
    have := h.of_v
    subst this
    unfold AV.frz
    split
    · rename_i heq; cases heq
    · rename_i heq; cases heq
    · rename_i heq; cases heq
    · rename_i heq; cases heq; exact .fslNil none 0
    · exact .v _
  | .fsl sz es, y, h, _ => by simpa [AV.frz] using up hG h
  | .osl id, y, h, hs => by
    unfold AV.frz
    split
    · rename_i t sz es hi
      exact fsl_of_own hi hm h hG (fun b hb => hs id (by simp [AV.slices]) b t sz es (.inl hi) hb) B
    · rename_i t sz es hi
      exact fsl_of_sl (.inr hi) hm h hG (fun b hb => hs id (by simp [AV.slices]) b t sz es (.inr hi) hb) B
    · rename_i a hi
      have hlt := (List.getElem?_eq_some_iff.1 hi).1
      obtain ⟨l, hl⟩ : ∃ l, B[id]? = some l := ⟨_, List.getElem?_eq_getElem (by rw [hm.len]; exact hlt)⟩
      have hbr := hm.br id _ l hi hl
      match l, hbr, hl with
      | .arr sz' g n cap, hb, hl =>
        cases h with
        | omap h => rw [hl] at h; cases h
        | oslW h => rw [hl] at h; cases h
        | osl h => rw [hl] at h; cases h; exact up hG (bare_up hb)
      | .wrr sz' b off n cap, hb, hl =>
        cases h with
        | omap h => rw [hl] at h; cases h
        | osl h => rw [hl] at h; cases h
        | oslW h => rw [hl] at h; cases h; exact up hG (bare_up hb)
    · exact up hG h
  | .ptr .., y, h, _ => by simpa [AV.frz] using up hG h
  | .fptr .., y, h, _ => by simpa [AV.frz] using up hG h
  | .win .., y, h, _ => by simpa [AV.frz] using up hG h
  | .fn .., y, h, _ => by simpa [AV.frz] using up hG h
  | .ifc .., y, h, _ => by simpa [AV.frz] using up hG h
theorem frzAll_ok {G : Nat → Prop} (hm : MR O F w B mem) (hG : ∀ b, F b → G b) : ∀ (xs : List AV) (ys : List Value), CR F w B xs ys → (∀ id ∈ AV.slicesAll xs, ∀ b t sz es, Sl mem id t sz es → ownB mem B id = some b → G b) → CR G w B (AV.frzAll mem xs) ys
  | [], ys, h, _ => by cases h; exact .nil
  | x :: xs, ys, h, hs => by
    cases h with
    | cons h t =>
      simp only [AV.slicesAll, List.mem_append] at hs
      exact .cons (frz_ok hm hG x _ h (fun id hid => hs id (.inl hid))) (frzAll_ok hm hG xs _ t (fun id hid => hs id (.inr hid)))
end

mutual
theorem kfz_ok {G : Nat → Prop} (hm : MR O F w B mem) (hG : ∀ b, F b → G b) : ∀ (x : AV) (y : Value), VR F w B x y → (∀ id ∈ x.slices, ∀ b t sz es, Sl mem id t sz es → ownB mem B id = some b → G b) → VR G w B (x.kfz mem) y
  | .any, y, h, _ => by simpa [AV.kfz] using up hG h
  | .agg cs, y, h, hs => by
    obtain ⟨vs, rfl, hc⟩ := h.of_agg
    simp only [AV.kfz]
    exact .agg (kfzAll_ok hm hG cs vs hc (by simpa [AV.slices] using hs))
  | .tup cs, y, h, hs => by
    obtain ⟨vs, rfl, hc⟩ := h.of_tup
    simp only [AV.kfz]
    exact .tup (kfzAll_ok hm hG cs vs hc (by simpa [AV.slices] using hs))
  | .v v, y, h, _ => by
    have := h.of_v
    subst this
    simp only [AV.kfz]
    exact .v _
  | .fsl sz es, y, h, _ => by simpa [AV.kfz] using up hG h
  | .osl id, y, h, hs => by
    unfold AV.kfz
    split
    · rename_i t sz es hi
      exact fsl_of_own hi hm h hG (fun b hb => hs id (by simp [AV.slices]) b t sz es (.inl hi) hb) B
    · rename_i t sz es hi
      exact fsl_of_sl (.inr hi) hm h hG (fun b hb => hs id (by simp [AV.slices]) b t sz es (.inr hi) hb) B
    · rename_i a hi
      have hlt := (List.getElem?_eq_some_iff.1 hi).1
      obtain ⟨l, hl⟩ : ∃ l, B[id]? = some l := ⟨_, List.getElem?_eq_getElem (by rw [hm.len]; exact hlt)⟩
      have hbr := hm.br id _ l hi hl
      match l, hbr, hl with
      | .arr sz' g n cap, hb, hl =>
        cases h with
        | omap h => rw [hl] at h; cases h
        | oslW h => rw [hl] at h; cases h
        | osl h => rw [hl] at h; cases h; exact up hG (bare_up hb)
      | .wrr sz' b off n cap, hb, hl =>
        cases h with
        | omap h => rw [hl] at h; cases h
        | osl h => rw [hl] at h; cases h
        | oslW h => rw [hl] at h; cases h; exact up hG (bare_up hb)
    · exact up hG h
  | .ptr .., y, h, _ => by simpa [AV.kfz] using up hG h
  | .fptr .., y, h, _ => by simpa [AV.kfz] using up hG h
  | .win .., y, h, _ => by simpa [AV.kfz] using up hG h
  | .fn .., y, h, _ => by simpa [AV.kfz] using up hG h
  | .ifc .., y, h, _ => by simpa [AV.kfz] using up hG h
theorem kfzAll_ok {G : Nat → Prop} (hm : MR O F w B mem) (hG : ∀ b, F b → G b) : ∀ (xs : List AV) (ys : List Value), CR F w B xs ys → (∀ id ∈ AV.slicesAll xs, ∀ b t sz es, Sl mem id t sz es → ownB mem B id = some b → G b) → CR G w B (AV.kfzAll mem xs) ys
  | [], ys, h, _ => by cases h; exact .nil
  | x :: xs, ys, h, hs => by
    cases h with
    | cons h t =>
      simp only [AV.slicesAll, List.mem_append] at hs
      exact .cons (kfz_ok hm hG x _ h (fun id hid => hs id (.inl hid))) (kfzAll_ok hm hG xs _ t (fun id hid => hs id (.inr hid)))
end

mutual
theorem mapId_ok {f : Nat → Nat} {B1 : List Loc} : ∀ (x : AV) (y : Value), VR F w B x y → (∀ i ∈ x.ids, ∀ l, B[i]? = some l → B1[f i]? = some l) → VR F w B1 (x.mapId f) y
  | .any, y, h, _ => by simp only [AV.mapId]; exact .any y
  | .v v, y, h, _ => by have := h.of_v; subst this; simp only [AV.mapId]; exact .v _
  | .agg cs, y, h, hi => by obtain ⟨vs, rfl, hc⟩ := h.of_agg; simp only [AV.mapId]; exact .agg (mapIdAll_ok cs vs hc (by simpa only [AV.ids] using hi))
  | .tup cs, y, h, hi => by obtain ⟨vs, rfl, hc⟩ := h.of_tup; simp only [AV.mapId]; exact .tup (mapIdAll_ok cs vs hc (by simpa only [AV.ids] using hi))
  | .fn f cs, y, h, hi => by obtain ⟨vs, rfl, hc⟩ := h.of_fn; simp only [AV.mapId]; exact .fn (mapIdAll_ok cs vs hc (by simpa only [AV.ids] using hi))
  | .ifc t c, y, h, hi => by obtain ⟨z, rfl, hc⟩ := h.of_ifc; simp only [AV.mapId]; exact .ifc (mapId_ok c z hc (by simpa only [AV.ids] using hi))
  | .fsl sz es, y, h, _ => by
    simp only [AV.mapId]
    cases h with
    | fslNil b c => exact .fslNil b c
    | fsl b p c h1 h2 h3 h4 h5 => exact .fsl b p c h1 h2 h3 h4 h5
  | .fptr e k, y, h, _ => by
    simp only [AV.mapId]
    cases h with
    | fptr b p k h1 h2 h3 => exact .fptr b p k h1 h2 h3
  | .osl id, y, h, hi => by
    simp only [AV.mapId]
    cases h with
    | osl h => exact .osl (hi id (by simp [AV.ids]) _ h)
    | omap h => exact .omap (hi id (by simp [AV.ids]) _ h)
    | oslW h => exact .oslW (hi id (by simp [AV.ids]) _ h)
  | .win id off n, y, h, hi => by
    simp only [AV.mapId]
    cases h with
    | win h hc hp => exact .win (hi id (by simp [AV.ids]) _ h) hc hp
  | .ptr id i k, y, h, hi => by
    simp only [AV.mapId]
    cases h with
    | ptrV h => exact .ptrV (hi id (by simp [AV.ids]) _ h)
    | ptrA h => exact .ptrA (hi id (by simp [AV.ids]) _ h)
    | ptrW h => exact .ptrW (hi id (by simp [AV.ids]) _ h)
theorem mapIdAll_ok {f : Nat → Nat} {B1 : List Loc} : ∀ (xs : List AV) (ys : List Value), CR F w B xs ys → (∀ i ∈ AV.idsAll xs, ∀ l, B[i]? = some l → B1[f i]? = some l) → CR F w B1 (AV.mapIdAll f xs) ys
  | [], ys, h, _ => by cases h; exact .nil
  | x :: xs, ys, h, hi => by
    cases h with
    | cons h t =>
      simp only [AV.idsAll, List.mem_append] at hi
      exact .cons (mapId_ok x _ h (fun i h => hi i (.inl h))) (mapIdAll_ok xs _ t (fun i h => hi i (.inr h)))
end

mutual
theorem res_ok (hm : MR O F w B mem) : ∀ (x : AV) (y : Value), VR F w B x y → VR F w B (x.res mem) y
  | .any, y, h => by simpa only [AV.res] using h
  | .v v, y, h => by
    have := h.of_v; subst this
    simp only [AV.res]
    exact .v _
  | .agg cs, y, h => by obtain ⟨vs, rfl, hc⟩ := h.of_agg; simp only [AV.res]; exact .agg (resAll_ok hm cs vs hc)
  | .tup cs, y, h => by obtain ⟨vs, rfl, hc⟩ := h.of_tup; simp only [AV.res]; exact .tup (resAll_ok hm cs vs hc)
  | .fn f cs, y, h => by obtain ⟨vs, rfl, hc⟩ := h.of_fn; simp only [AV.res]; exact .fn (resAll_ok hm cs vs hc)
  | .ifc t c, y, h => by obtain ⟨z, rfl, hc⟩ := h.of_ifc; simp only [AV.res]; exact .ifc (res_ok hm c z hc)
  | .fsl sz es, y, h => by simpa only [AV.res] using h
  | .fptr e k, y, h => by simpa only [AV.res] using h
  | .win id off n, y, h => by simpa only [AV.res] using h
  | .osl id, y, h => by
    simp only [AV.res]
    split
    · rename_i a hi
      have hlt := (List.getElem?_eq_some_iff.1 hi).1
      obtain ⟨l, hl⟩ : ∃ l, B[id]? = some l := ⟨_, List.getElem?_eq_getElem (by rw [hm.len]; exact hlt)⟩
      have hbr := hm.br id _ l hi hl
      match l, hbr, hl with
      | .arr sz' g n cap, hb, hl =>
        cases h with
        | omap h => rw [hl] at h; cases h
        | oslW h => rw [hl] at h; cases h
        | osl h => rw [hl] at h; cases h; exact bare_up hb
      | .wrr sz' b off n cap, hb, hl =>
        cases h with
        | omap h => rw [hl] at h; cases h
        | osl h => rw [hl] at h; cases h
        | oslW h => rw [hl] at h; cases h; exact bare_up hb
    · exact h
  | .ptr id i k, y, h => by simpa only [AV.res] using h
theorem resAll_ok (hm : MR O F w B mem) : ∀ (xs : List AV) (ys : List Value), CR F w B xs ys → CR F w B (AV.resAll mem xs) ys
  | [], ys, h => by cases h; exact .nil
  | x :: xs, ys, h => by
    cases h with
    | cons h t => exact .cons (res_ok hm x _ h) (resAll_ok hm xs _ t)
end

theorem prepA_ok (hm : MR O F w B mem) : ∀ (ms : List Bool) (xs : List AV) (ys : List Value), CR F w B xs ys → CR F w B (prepA mem ms xs) ys
  | [], xs, ys, h => by simp only [prepA]; exact resAll_ok hm xs ys h
  | true :: ms, [], ys, h => by cases h; exact .nil
  | false :: ms, [], ys, h => by cases h; exact .nil
  | true :: ms, x :: xs, ys, h => by cases h with | cons h t => exact .cons h (prepA_ok hm ms xs _ t)
  | false :: ms, x :: xs, ys, h => by cases h with | cons h t => exact .cons (res_ok hm x _ h) (prepA_ok hm ms xs _ t)

theorem freezeIds_length : ∀ (ids : List Nat) (mem : List Blk), (freezeIds ids mem).length = mem.length
  | [], _ => rfl
  | i :: is, mem => by simp only [freezeIds]; rw [freezeIds_length is]; simp

theorem BR.mapId {f : Nat → Nat} {B1 : List Loc} {b : Blk} {l : Loc} (h : BR F w B b l) (hi : ∀ i ∈ b.ids, ∀ l, B[i]? = some l → B1[f i]? = some l) : BR F w B1 (b.mapId f) l := by
  match b, l, h with
  | .gone, _, _ => trivial
  | .var cs, .var b, ⟨t, xs, h1, h2⟩ => exact ⟨t, xs, h1, mapIdAll_ok cs xs h2 hi⟩
  | .tvar t cs, .var b, ⟨xs, h1, h2⟩ => exact ⟨xs, h1, mapIdAll_ok cs xs h2 hi⟩
  | .arr t sz es, .arr sz' g n cap, h => exact h
  | .frz a, .arr _ g n cap, h => exact h
  | .frz a, .wrr _ b off n cap, h => exact h
  | .buf t sz es, .arr sz' g n cap, h => exact h
  | .wrr t sz es, .wrr sz' b off n cap, h => exact h
  | .map es, .map b, ⟨ents, clock, h1, h2, h3⟩ =>
    refine ⟨ents, clock, h1, by rw [h2]; simp [List.map_map], ?_⟩
    have := mapIdAll_ok (f := f) (B1 := B1) _ _ h3 hi
    have e : (List.map (fun e => (e.1, AV.mapId f e.2)) es).map (·.2) = AV.mapIdAll f (es.map (·.2)) := by
      clear h1 h2 h3 hi this
      induction es with
      | nil => rfl
      | cons e es ih => simp only [List.map_cons, AV.mapIdAll]; rw [← ih]
    rw [e]; exact this

theorem Blk.own_mapId {f : Nat → Nat} (b : Blk) : (b.mapId f).own = b.own := by cases b <;> rfl

theorem idx_at {ids : List Nat} {i : Nat} (hi : i ∈ ids) : ids[idx ids i]? = some i := by
  unfold idx
  rw [List.getElem?_eq_getElem (List.idxOf_lt_length_iff.2 hi)]
  simp

theorem nodup_at : ∀ {l : List Nat} {i j a : Nat}, l.Nodup → l[i]? = some a → l[j]? = some a → i = j
  | [], i, j, a, _, h, _ => by simp at h
  | x :: l, i, j, a, hn, h1, h2 => by
    rw [List.nodup_cons] at hn
    cases i with
    | zero => cases j with
      | zero => rfl
      | succ j => simp at h1 h2; subst h1; exact absurd (List.mem_of_getElem? h2) hn.1
    | succ i => cases j with
      | zero => simp at h1 h2; subst h2; exact absurd (List.mem_of_getElem? h1) hn.1
      | succ j => simp at h1 h2; rw [nodup_at hn.2 h1 h2]

theorem subOk_spec {ids named : List Nat} (h : subOk ids mem named = true) : ids.Nodup ∧ (∀ i ∈ ids, i < mem.length) ∧ (∀ i ∈ named, i ∈ ids) ∧ ∀ i ∈ ids, ∀ b, mem[i]? = some b → ∀ j ∈ b.ids, j ∈ ids := by
  simp only [subOk, Bool.and_eq_true, decide_eq_true_eq, List.all_eq_true, List.contains_iff_mem] at h
  refine ⟨h.1.1.1, h.1.1.2, h.1.2, fun i hi b hb j hj => h.2 i hi j ?_⟩
  rw [List.getD_eq_getElem?_getD, hb]; exact hj

def subB (ids : List Nat) (B : List Loc) : List Loc := ids.map fun i => B.getD i (.var 0)

theorem subB_idx {ids : List Nat} {i : Nat} {l : Loc} (hi : i ∈ ids) (hl : B[i]? = some l) : (subB ids B)[idx ids i]? = some l := by
  simp [subB, idx_at hi, List.getD_eq_getElem?_getD, hl]

/-- Some of the blocks, by themselves. -/
theorem MR.sub {O1 : Nat → Prop} {ids named : List Nat} (hm : MR O F w B mem) (hs : subOk ids mem named = true) (hO1 : ∀ i ∈ ids, ∀ b, ownB mem B i = some b → O1 b) : MR O1 F w (subB ids B) (subM ids mem) := by
  obtain ⟨h1, h2, h3, h4⟩ := subOk_spec hs
  have at_ : ∀ (j : Nat) (b : Blk), (subM ids mem)[j]? = some b → ∃ i b0 l, ids[j]? = some i ∧ mem[i]? = some b0 ∧ B[i]? = some l ∧ b = b0.mapId (idx ids) ∧ (subB ids B)[j]? = some l := by
    intro j b hj
    simp only [subM, List.getElem?_map] at hj
    cases hi : ids[j]? with
    | none => simp [hi] at hj
    | some i =>
      have hmem := List.mem_of_getElem? hi
      have hlt := h2 i hmem
      obtain ⟨b0, hb0⟩ : ∃ b, mem[i]? = some b := ⟨_, List.getElem?_eq_getElem hlt⟩
      obtain ⟨l, hl⟩ : ∃ l, B[i]? = some l := ⟨_, List.getElem?_eq_getElem (by rw [hm.len]; exact hlt)⟩
      simp only [hi, Option.map_some, Option.some.injEq, List.getD_eq_getElem?_getD, hb0, Option.getD_some] at hj
      exact ⟨i, b0, l, rfl, hb0, hl, hj.symm, by simp [subB, hi, List.getD_eq_getElem?_getD, hl]⟩
  have own_ : ∀ j b, ownB (subM ids mem) (subB ids B) j = some b → ∃ i, ids[j]? = some i ∧ ownB mem B i = some b := by
    intro j b hj
    obtain ⟨k, l, q1, q2, q3, q4⟩ := ownB_some hj
    obtain ⟨i, b0, l', g1, g2, g3, g4, g5⟩ := at_ j k q1
    rw [q2] at g5; cases g5
    subst g4
    exact ⟨i, g1, ownB_mk g2 g3 (by rwa [Blk.own_mapId] at q3) q4⟩
  refine ⟨by simp [subB, subM], ?_, ?_, ?_, hm.fr, hm.gl⟩
  · intro j b l hj hl
    obtain ⟨i, b0, l', g1, g2, g3, g4, g5⟩ := at_ j b hj
    rw [hl] at g5; cases g5
    subst g4
    exact (hm.br i b0 l g2 g3).mapId (fun k hk l' hl' => subB_idx (h4 i (List.mem_of_getElem? g1) b0 g2 k hk) hl')
  · intro j j' b hj hj'
    obtain ⟨i, g1, g2⟩ := own_ j b hj
    obtain ⟨i', g3, g4⟩ := own_ j' b hj'
    have := hm.sep i i' b g2 g4
    subst this
    exact nodup_at h1 g1 g3
  · intro j b hj
    obtain ⟨i, g1, g2⟩ := own_ j b hj
    obtain ⟨q1, q2, q3⟩ := hm.own i b g2
    exact ⟨hO1 i (List.mem_of_getElem? g1) b g2, q2, q3⟩

theorem putM_at : ∀ (ids : List Nat) (bs mem : List Blk), ids.Nodup → ids.length = bs.length → ∀ i b, (putM ids bs mem)[i]? = some b → (i ∉ ids ∧ mem[i]? = some b) ∨ ∃ j : Nat, ids[j]? = some i ∧ bs[j]? = some b
  | [], bs, mem, _, _, i, b, h => .inl ⟨by simp, by simpa [putM] using h⟩
  | i0 :: is, [], mem, _, hl, i, b, h => by simp at hl
  | i0 :: is, b0 :: bs, mem, hn, hl, i, b, h => by
    rw [List.nodup_cons] at hn
    simp only [putM] at h
    rcases putM_at is bs _ hn.2 (by simpa using hl) i b h with ⟨h1, h2⟩ | ⟨j, h1, h2⟩
    · by_cases hi : i0 = i
      · subst hi
        by_cases hlt : i0 < mem.length
        · rw [List.getElem?_set_self hlt] at h2; exact .inr ⟨0, rfl, h2⟩
        · rw [List.getElem?_eq_none (by simp; omega)] at h2; cases h2
      · rw [List.getElem?_set_ne hi] at h2
        exact .inl ⟨by simp [h1, Ne.symm hi], h2⟩
    · exact .inr ⟨j + 1, by simpa using h1, by simpa using h2⟩

theorem putM_length : ∀ (ids : List Nat) (bs mem : List Blk), (putM ids bs mem).length = mem.length
  | [], _, _ => rfl
  | _ :: _, [], _ => rfl
  | i :: is, b :: bs, mem => by simp only [putM]; rw [putM_length is bs]; simp

/-- What a callee leaves goes back to its places, and what is new behind all others. -/
theorem MR.merge {O1 F1 : Nat → Prop} {B1 : List Loc} {mo : List Blk} {ids named : List Nat} (hm : MR O F w B mem) (hsub : subOk ids mem named = true) (ho : MR O1 F1 w' B1 mo) (hk : ids.length ≤ mo.length)
    (hB1 : ∀ (j : Nat) (l : Loc), (subB ids B)[j]? = some l → B1[j]? = some l) (hO1 : ∀ b, O1 b → (∃ i ∈ ids, ownB mem B i = some b) ∨ w.heap.size ≤ b)
    (hF : ∀ b, F b → F1 b) (hF1 : ∀ b, F1 b → F b ∨ O1 b) (hs : w.heap.size ≤ w'.heap.size) (hblk : ∀ b, b < w.heap.size → ¬ O1 b → w'.heap[b]? = w.heap[b]?) (hO : ∀ b, O1 b → O b) :
    MR O F1 w' (B ++ B1.drop ids.length) (putM ids ((mo.take ids.length).map (Blk.mapId (back ids mem.length))) mem ++ (mo.drop ids.length).map (Blk.mapId (back ids mem.length))) ∧
    (∀ (j : Nat) (l : Loc), B1[j]? = some l → (B ++ B1.drop ids.length)[back ids mem.length j]? = some l) ∧ Ext F F1 w w' B (B ++ B1.drop ids.length) := by
  obtain ⟨h1, h2, h3, h4⟩ := subOk_spec hsub
  have hl := hm.len
  have hl1 := ho.len
  have notO : ∀ b, F b → ¬ O1 b := fun b hb hob => by
    rcases hO1 b hob with ⟨i, _, hi⟩ | hi
    · exact (hm.own i b hi).2.1 hb
    · have := hm.fr b hb; omega
  have e : Ext F F1 w w' B (B ++ B1.drop ids.length) := ⟨hF, (ext_append F w B _).pl, fun b hb => hblk b (hm.fr b hb) (notO b hb)⟩
  have pl : ∀ (j : Nat) (l : Loc), B1[j]? = some l → (B ++ B1.drop ids.length)[back ids mem.length j]? = some l := by
    intro j l hj
    unfold back
    split
    · rename_i hlt
      have hi : ids[j]? = some ids[j] := List.getElem?_eq_getElem hlt
      have hmem : ids[j] ∈ ids := List.getElem_mem hlt
      have hb : ids[j] < B.length := by rw [hl]; exact h2 _ hmem
      have := hB1 j B[ids[j]] (by simp [subB, hi, List.getD_eq_getElem?_getD, List.getElem?_eq_getElem hb])
      rw [hj] at this; cases this
      rw [List.getD_eq_getElem?_getD, hi, Option.getD_some, List.getElem?_append_left hb, List.getElem?_eq_getElem hb]
    · rename_i hge
      rw [List.getElem?_append_right (by omega), List.getElem?_drop]
      rw [← hj]; congr 1; omega
  have at_ : ∀ (n : Nat) (b : Blk), (putM ids ((mo.take ids.length).map (Blk.mapId (back ids mem.length))) mem ++ (mo.drop ids.length).map (Blk.mapId (back ids mem.length)))[n]? = some b →
      (n ∉ ids ∧ mem[n]? = some b) ∨ ∃ j b0, mo[j]? = some b0 ∧ b = b0.mapId (back ids mem.length) ∧ n = back ids mem.length j := by
    intro n b hn
    by_cases hlt : n < mem.length
    · rw [List.getElem?_append_left (by rw [putM_length]; exact hlt)] at hn
      rcases putM_at ids _ mem h1 (by simp; omega) n b hn with hh | ⟨j, g1, g2⟩
      · exact .inl hh
      · have hj := (List.getElem?_eq_some_iff.1 g1).1
        rw [List.getElem?_map, List.getElem?_take] at g2
        simp only [hj, if_true] at g2
        cases hmo : mo[j]? with
        | none => simp [hmo] at g2
        | some b0 =>
          simp [hmo] at g2
          refine .inr ⟨j, b0, hmo, g2.symm, ?_⟩
          unfold back; rw [if_pos hj, List.getD_eq_getElem?_getD, g1, Option.getD_some]
    · rw [List.getElem?_append_right (by rw [putM_length]; omega), putM_length, List.getElem?_map, List.getElem?_drop] at hn
      cases hmo : mo[ids.length + (n - mem.length)]? with
      | none => simp [hmo] at hn
      | some b0 =>
        simp [hmo] at hn
        refine .inr ⟨_, b0, hmo, hn.symm, ?_⟩
        unfold back; rw [if_neg (by omega)]; omega
  have own_ : ∀ n b, ownB (putM ids ((mo.take ids.length).map (Blk.mapId (back ids mem.length))) mem ++ (mo.drop ids.length).map (Blk.mapId (back ids mem.length))) (B ++ B1.drop ids.length) n = some b →
      (n ∉ ids ∧ ownB mem B n = some b) ∨ ∃ j, ownB mo B1 j = some b ∧ n = back ids mem.length j := by
    intro n b hn
    obtain ⟨k, l, q1, q2, q3, q4⟩ := ownB_some hn
    rcases at_ n k q1 with ⟨g1, g2⟩ | ⟨j, b0, g1, g2, g3⟩
    · have hlt := (List.getElem?_eq_some_iff.1 g2).1
      rw [List.getElem?_append_left (by omega)] at q2
      exact .inl ⟨g1, ownB_mk g2 q2 q3 q4⟩
    · subst g2
      have hj := (List.getElem?_eq_some_iff.1 g1).1
      have hb1 : B1[j]? = some B1[j] := List.getElem?_eq_getElem (by omega)
      have := pl j _ hb1
      rw [← g3, q2] at this
      cases this
      exact .inr ⟨j, ownB_mk g1 hb1 (by rwa [Blk.own_mapId] at q3) q4, g3⟩
  have apart : ∀ n b, n ∉ ids → ownB mem B n = some b → ¬ O1 b := fun n b hn hb hob => by
    rcases hO1 b hob with ⟨i, hi, hib⟩ | hge
    · exact hn (hm.sep n i b hb hib ▸ hi)
    · have := (hm.own n b hb).2.2; omega
  refine ⟨⟨by simp [putM_length, hl, hl1], ?_, ?_, ?_, ho.fr, ho.gl⟩, pl, e⟩
  · intro n b l hn hl'
    rcases at_ n b hn with ⟨g1, g2⟩ | ⟨j, b0, g1, g2, g3⟩
    · have hlt := (List.getElem?_eq_some_iff.1 g2).1
      rw [List.getElem?_append_left (by omega)] at hl'
      refine (hm.br n b l g2 hl').mono e (fun hown k hkk => ?_)
      have hob := ownB_mk g2 hl' hown hkk
      exact hblk k (hm.own n k hob).2.2 (apart n k g1 hob)
    · subst g2
      have hj := (List.getElem?_eq_some_iff.1 g1).1
      have hb1 : B1[j]? = some B1[j] := List.getElem?_eq_getElem (by omega)
      have := pl j _ hb1
      rw [← g3, hl'] at this
      cases this
      exact (ho.br j b0 _ g1 hb1).mapId (fun i _ l hl => pl i l hl)
  · intro n n' b hn hn'
    rcases own_ n b hn with ⟨g1, g2⟩ | ⟨j, g1, g2⟩ <;> rcases own_ n' b hn' with ⟨q1, q2⟩ | ⟨j', q1, q2⟩
    · exact hm.sep n n' b g2 q2
    · exact absurd (ho.own j' b q1).1 (apart n b g1 g2)
    · exact absurd (ho.own j b g1).1 (apart n' b q1 q2)
    · rw [g2, q2, ho.sep j j' b g1 q1]
  · intro n b hn
    rcases own_ n b hn with ⟨g1, g2⟩ | ⟨j, g1, g2⟩
    · obtain ⟨p1, p2, p3⟩ := hm.own n b g2
      refine ⟨p1, fun hb => ?_, by omega⟩
      rcases hF1 b hb with hb | hb
      · exact p2 hb
      · exact apart n b g1 g2 hb
    · obtain ⟨p1, p2, p3⟩ := ho.own j b g1
      exact ⟨hO b p1, p2, p3⟩

theorem go_call (Γ : Env) (hΓ : EnvOk P Γ) (f : FuncId) (args : List AV) (vs : List Value) (r : Res)
    (hrun : (execOp a.eval o).run P w = (callFunc f vs.toArray).run P w) (hc : callA Γ mem f args = some (r, mem'))
    (hO : ∀ b, w.heap.size ≤ b → O b) (hm : MR O F w B mem) (ha : CR F w B args vs) : Goes P O F w B o a r mem' := by
  unfold callA at hc
  cases hg : Γ f with
  | none => simp [hg] at hc
  | some p =>
    obtain ⟨ms, sp⟩ := p
    simp only [hg] at hc
    obtain ⟨G, m1, hFG, hGO, hfr⟩ := MR.freezes (fzOf ms args) hm
    have ha1 : CR G w B (prepA (freezeIds (fzOf ms args) mem) ms args) vs := prepA_ok m1 ms args vs (ha.mono ⟨hFG, fun _ _ h => h, fun _ _ => rfl⟩)
    generalize freezeIds (fzOf ms args) mem = mem1 at hc m1 ha1
    generalize prepA mem1 ms args = as at hc ha1
    generalize closeIds mem1 3 (addNew [] (AV.idsAll as)) = ids at hc
    unfold callB at hc
    split at hc
    case isFalse => cases hc
    rename_i hsub
    obtain ⟨h1, h2, h3, h4⟩ := subOk_spec hsub
    have ha2 : CR G w (subB ids B) (AV.mapIdAll (idx ids) as) vs := mapIdAll_ok as vs ha1 (fun i hi l hl => subB_idx (h3 i hi) hl)
    split at hc
    case h_2 => cases hc
    rename_i r0 mo hsp
    split at hc
    case isFalse => cases hc
    rename_i hlen
    simp only [Option.some.injEq, Prod.mk.injEq] at hc
    obtain ⟨hr, hmem⟩ := hc
    intro K Q hK
    unfold Oper.wp
    rw [hrun]
    rcases hΓ f ms sp hg with ⟨⟨fn, hf1, hf2, hf3⟩, hok⟩ | hext | hextM
    case inr.inl =>
      obtain ⟨e1, e2, v, e3, e4⟩ := hext _ _ _ _ hsp
      subst e2; subst e3
      have hids : ids = [] := by simpa [subM] using e1
      subst hids
      obtain ⟨x, e5, e6⟩ := e4 G w vs (by simpa [subB] using ha2)
      rw [e5]
      subst hr
      simp [putM] at hmem
      subst hmem
      exact hK x w G B m1 ⟨hFG, fun _ _ h => h, fun _ _ => rfl⟩ (.refl O w) hGO (mapId_ok v x e6 (fun i _ l hl => by simp at hl))
    case inr.inr =>
      obtain ⟨e1, v, e3, e4⟩ := hextM _ _ _ _ hsp
      subst e1; subst e3
      have hO1 : ∀ b, ((∃ i ∈ ids, ownB mem1 B i = some b) ∨ w.heap.size ≤ b) → O b := fun b hb => by
        rcases hb with ⟨i, _, hb⟩ | hb
        · exact (m1.own i b hb).1
        · exact hO b hb
      have hsm := m1.sub (O1 := fun b => (∃ i ∈ ids, ownB mem1 B i = some b) ∨ w.heap.size ≤ b) hsub (fun i hi b hb => .inl ⟨i, hi, hb⟩)
      obtain ⟨x, e5, e6⟩ := e4 _ G (subB ids B) w vs hsm ha2
      rw [e5]
      subst hr
      subst hmem
      obtain ⟨j1, j2, j3⟩ := m1.merge hsub hsm hlen (fun _ _ h => h) (fun b hb => hb) (fun _ h => h) (fun _ h => .inl h) (Nat.le_refl _) (fun _ _ _ => rfl) hO1
      exact hK x w G _ j1 ⟨hFG, j3.pl, fun _ _ => rfl⟩ (.refl O w) hGO (mapId_ok v x e6 (fun i _ l hl => j2 i l hl))
    have hrun2 : (callFunc f vs.toArray).run P w = .ok (.enter f vs.toArray) w := by
      have hbn : fn.body ≠ none := by intro hb; simp [hb] at hf2
      have hne : fn.name ≠ "runtime.NumGoroutine" := by simpa using hf3
      simp [callFunc, hf1, hne, hbn]
    rw [hrun2]
    have hO1 : ∀ b, ((∃ i ∈ ids, ownB mem1 B i = some b) ∨ w.heap.size ≤ b) → O b := fun b hb => by
      rcases hb with ⟨i, _, hb⟩ | hb
      · exact (m1.own i b hb).1
      · exact hO b hb
    have hmain := hok _ _ r0 mo hsp (fun b => (∃ i ∈ ids, ownB mem1 B i = some b) ∨ w.heap.size ≤ b) G (subB ids B) w vs (fun _ h => .inr h) (m1.sub hsub (fun i hi b hb => .inl ⟨i, hi, hb⟩)) ha2
    refine hmain.mono ?_
    rintro e w' ⟨F', B', q1, q2, q3, q4, q5⟩
    obtain ⟨j1, j2, j3⟩ := m1.merge hsub q1 hlen q2.pl (fun b hb => hb) q2.fr q4 q3.size (fun b hb hob => q3.block b hb hob) hO1
    have hev : Ev O w w' := ⟨q3.os, q3.tape, q3.output, q3.size, fun b hb hob => q3.block b hb (fun hh => hob (hO1 b hh))⟩
    have hext2 : Ext F F' w w' B (B ++ B'.drop ids.length) := ⟨fun b hb => j3.fr b (hFG b hb), j3.pl, fun b hb => j3.hp b (hFG b hb)⟩
    have hFO : ∀ b, F' b → F b ∨ O b := fun b hb => by
      rcases q4 b hb with hb | hb
      · exact hGO b hb
      · exact .inr (hO1 b hb)
    subst hmem
    subst hr
    match r0, e, q5 with
    | .ret v, .returned x, h => exact hK x w' F' _ j1 hext2 hev hFO (mapId_ok v x h (fun i _ l hl => j2 i l hl))
    | .pan v, .panicked ch, ⟨pv, g1, g2⟩ =>
      subst g1
      exact hK pv w' F' _ j1 hext2 hev hFO (mapId_ok v pv g2 (fun i _ l hl => j2 i l hl))

end
end Go.Proofs.YtajpaagbfmjacaaGreatDoor.Am
/-
  THE ABSTRACT MACHINE, EIGHTH PART: structs and arrays compared and built; slices cut; the rest of the operations. No program is named here.
-/
namespace Go.Proofs.YtajpaagbfmjacaaGreatDoor.Am
set_option linter.unusedSimpArgs false
set_option linter.unusedVariables false
open Go
section
variable {P : Program} {O F F' : Nat → Prop} {w w' : World} {B B' : List Loc} {ts : Nat → AV} {mem mem' : List Blk} {a : Act} {o : Oper}

theorem eqCells_split : ∀ (k1 k2 : List EK) (cs ds : List AV) (r : Bool), eqCells (k1 ++ k2) cs ds = some r → k1.length + k2.length = cs.length → k1.length + k2.length = ds.length →
    ∃ r1 r2, eqCells k1 (cs.take k1.length) (ds.take k1.length) = some r1 ∧ eqCells k2 (cs.drop k1.length) (ds.drop k1.length) = some r2 ∧ r = (r1 && r2)
  | [], k2, cs, ds, r, h, _, _ => ⟨true, r, by simp [eqCells], by simpa using h, by simp⟩
  | k :: k1, k2, cs, ds, r, h, h1, h2 => by
    cases cs with
    | nil => simp at h1
    | cons c cs => cases ds with
      | nil => simp at h2
      | cons d ds =>
        simp only [List.cons_append] at h
        simp only [List.length_cons] at h1 h2
        unfold eqCells at h
        split at h
        · rename_i hk _ _; cases hk
        · rename_i heq1 heq2 heq3; cases heq1; cases heq2; cases heq3
          split at h
          · rename_i _ a1 _ b1 hkk
            cases hr : eqCells (k1 ++ k2) cs ds with
            | none => simp [hr] at h
            | some r' =>
              obtain ⟨r1, r2, g1, g2, g3⟩ := eqCells_split k1 k2 cs ds r' hr (by omega) (by omega)
              simp [hr] at h
              exact ⟨(a1 == b1 && r1), r2, by simp [eqCells, hkk, g1], by simpa using g2, by rw [← h, g3, Bool.and_assoc]⟩
          · cases h
        · rename_i heq1 heq2 heq3; cases heq1; cases heq2; cases heq3
          rename_i a1 b1
          cases hr : eqCells (k1 ++ k2) cs ds with
          | none => simp [hr] at h
          | some r' =>
            obtain ⟨r1, r2, g1, g2, g3⟩ := eqCells_split k1 k2 cs ds r' hr (by omega) (by omega)
            simp [hr] at h
            exact ⟨(a1 == b1 && r1), r2, by simp [eqCells, g1], by simpa using g2, by rw [← h, g3, Bool.and_assoc]⟩
        · rename_i heq1 heq2 heq3; cases heq1; cases heq2; cases heq3
          rename_i a1 b1
          cases hr : eqCells (k1 ++ k2) cs ds with
          | none => simp [hr] at h
          | some r' =>
            obtain ⟨r1, r2, g1, g2, g3⟩ := eqCells_split k1 k2 cs ds r' hr (by omega) (by omega)
            simp [hr] at h
            exact ⟨(a1 == b1 && r1), r2, by simp [eqCells, g1], by simpa using g2, by rw [← h, g3, Bool.and_assoc]⟩
        · cases h

theorem eqI {cs ds : List AV} {r : Bool} (h : eqCells [.i] cs ds = some r) : ∃ k a b, cs = [.v (.int k a)] ∧ ds = [.v (.int k b)] ∧ r = (a == b) := by
  unfold eqCells at h
  split at h
  · contradiction
  · rename_i heq
    cases heq
    rename_i r1 _ _ s1
    split at h
    · rename_i hk
      subst hk
      cases r1 with
      | nil => cases s1 with
        | nil => simp [eqCells] at h; exact ⟨_, _, _, rfl, rfl, h.symm⟩
        | cons _ _ => simp [eqCells] at h
      | cons _ _ => simp [eqCells] at h
    · contradiction
  · rename_i heq; cases heq
  · rename_i heq; cases heq
  · contradiction
theorem eqS {cs ds : List AV} {r : Bool} (h : eqCells [.s] cs ds = some r) : ∃ a b, cs = [.v (.string a)] ∧ ds = [.v (.string b)] ∧ r = (a == b) := by
  unfold eqCells at h
  split at h
  · contradiction
  · rename_i heq; cases heq
  · rename_i heq
    cases heq
    rename_i r1 _ s1
    cases r1 with
    | nil => cases s1 with
      | nil => simp [eqCells] at h; exact ⟨_, _, rfl, rfl, h.symm⟩
      | cons _ _ => simp [eqCells] at h
    | cons _ _ => simp [eqCells] at h
  · rename_i heq; cases heq
  · contradiction
theorem eqB {cs ds : List AV} {r : Bool} (h : eqCells [.b] cs ds = some r) : ∃ a b, cs = [.v (.bool a)] ∧ ds = [.v (.bool b)] ∧ r = (a == b) := by
  unfold eqCells at h
  split at h
  · contradiction
  · rename_i heq; cases heq
  · rename_i heq; cases heq
  · rename_i heq
    cases heq
    rename_i r1 _ s1
    cases r1 with
    | nil => cases s1 with
      | nil => simp [eqCells] at h; exact ⟨_, _, rfl, rfl, h.symm⟩
      | cons _ _ => simp [eqCells] at h
    | cons _ _ => simp [eqCells] at h
  · contradiction

/-- A value of a type, by its cells. -/
def valOf (P : Program) (t : TypeId) (xs : List Value) (v : Value) : Prop := if aggOf P t then v = .agg xs.toArray else xs = [v]

theorem part_val {t : TypeId} {k : Bool × Nat} (hk : kOf P t = some k) (xs : List Value) (off : Nat) (hl : off + k.2 ≤ xs.length) (h1 : k.1 = false → k.2 = 1) :
    ∃ v, (part t xs.toArray off).run P w = .ok v w ∧ valOf P t ((xs.drop off).take k.2) v := by
  obtain ⟨r1, r2⟩ := run_agg (P := P) (w := w) hk
  have ha : aggOf P t = k.1 := by
    unfold kOf at hk
    split at hk
    · cases hk; rfl
    · cases hk
  cases hg : k.1 with
  | true =>
    refine ⟨.agg ((xs.drop off).take k.2).toArray, ?_, by simp [valOf, ha, hg]⟩
    simp only [part, Sem.run_bind, r1, Result.andThen_ok, hg, if_true, r2, Sem.run_pure]
    congr 2
    simp [List.extract_eq_take_drop]
  | false =>
    have hk1 := h1 hg
    have hlt : off < xs.length := by omega
    refine ⟨xs[off], ?_, ?_⟩
    · simp only [part, Sem.run_bind, r1, Result.andThen_ok, hg]
      simp [hlt]
    · simp only [valOf, ha, hg, hk1, Bool.false_eq_true, if_false]
      rw [List.drop_eq_getElem_cons hlt]; rfl

theorem flatK_one {d : Nat} {t : TypeId} {ks : List EK} (h : flatK P d t = some ks) (ha : aggOf P t = false) : ks.length = 1 := by
  cases d with
  | zero => simp [flatK] at h
  | succ d =>
    unfold flatK at h
    unfold aggOf at ha
    split at h
    · cases h; rfl
    · cases h; rfl
    · cases h; rfl
    · rename_i hu; simp [hu] at ha
    · rename_i hu; simp [hu] at ha
    · cases h

theorem eq_flat : ∀ (d : Nat) (k : Nat) (t : TypeId) (ks : List EK), flatK P d t = some ks → ∀ (cs ds : List AV) (xs ys : List Value) (r : Bool), CR F w B cs xs → CR F w B ds ys → ks.length = cs.length → ks.length = ds.length → eqCells ks cs ds = some r →
    ∀ vx vy, valOf P t xs vx → valOf P t ys vy → (Op.equalIn (k + d) t vx vy).run P w = .ok r w
  | 0, _, _, _, h => by simp [flatK] at h
  | d + 1, k, t, ks, h => by
    intro cs ds xs ys r hc hd hl1 hl2 he vx vy hx hy
    have ih := eq_flat d k
    unfold flatK at h
    split at h
    · rename_i ki hu
      cases h
      have ha : aggOf P t = false := by simp [aggOf, hu]
      simp only [valOf, ha, Bool.false_eq_true, if_false] at hx hy
      subst hx; subst hy
      obtain ⟨_, _, _, rfl, rfl, rfl⟩ := eqI he
      obtain ⟨x1, q1, h1⟩ := hc.of_one
      obtain ⟨y1, q2, h2⟩ := hd.of_one
      cases q1; cases q2
      rw [h1.of_v, h2.of_v, show k + (d + 1) = (k + d) + 1 by omega]
      exact run_equalIn_int w (k + d) t _ _ _ _ hu
    · rename_i hu
      cases h
      have ha : aggOf P t = false := by simp [aggOf, hu]
      simp only [valOf, ha, Bool.false_eq_true, if_false] at hx hy
      subst hx; subst hy
      obtain ⟨_, _, rfl, rfl, rfl⟩ := eqS he
      obtain ⟨x1, q1, h1⟩ := hc.of_one
      obtain ⟨y1, q2, h2⟩ := hd.of_one
      cases q1; cases q2
      rw [h1.of_v, h2.of_v, show k + (d + 1) = (k + d) + 1 by omega]
      rw [beq_toListBytes]; exact run_equalIn_string w (k + d) t _ _ hu
    · rename_i hu
      cases h
      have ha : aggOf P t = false := by simp [aggOf, hu]
      simp only [valOf, ha, Bool.false_eq_true, if_false] at hx hy
      subst hx; subst hy
      obtain ⟨_, _, rfl, rfl, rfl⟩ := eqB he
      obtain ⟨x1, q1, h1⟩ := hc.of_one
      obtain ⟨y1, q2, h2⟩ := hd.of_one
      cases q1; cases q2
      rw [h1.of_v, h2.of_v, show k + (d + 1) = (k + d) + 1 by omega]
      exact run_equalIn_bool' w (k + d) t _ _ hu
    · rename_i fs hu
      split at h
      · cases h
      · rename_i hst
        have ha : aggOf P t = true := by simp [aggOf, hu]
        simp only [valOf, ha, if_true] at hx hy
        subst hx; subst hy
        rw [show k + (d + 1) = (k + d) + 1 by omega]
        have hfo : P.fieldsOf t = fs := by unfold Program.fieldsOf; rw [hu]
        rw [run_equalIn_struct w (k + d) t _ _ (by rw [hfo]; exact hu) (by simpa using hst), hfo]
        have hxl : xs.length = cs.length := hc.length
        have hyl : ys.length = ds.length := hd.length
        have key : ∀ (l : List Field) (o : Nat) (ks : List EK), fieldsK P (flatK P d) l o = some ks → ∀ r, o + ks.length = cs.length → o + ks.length = ds.length → eqCells ks (cs.drop o) (ds.drop o) = some r →
            (Op.eqFields (k + d) xs.toArray ys.toArray l).run P w = .ok r w := by
          intro l
          induction l with
          | nil =>
            intro o ks h r h1 h2 he
            simp [fieldsK] at h; subst h
            simp at h1 h2
            rw [List.drop_of_length_le (by omega), List.drop_of_length_le (by omega)] at he
            simp [eqCells] at he; subst he
            simp [Op.eqFields]
          | cons f l ihl =>
            intro o ks h r h1 h2 he
            unfold fieldsK at h
            split at h
            · rename_i ks1 n hk1 hk2
              split at h
              · rename_i hcond
                obtain ⟨ho, hn, hname⟩ := hcond
                cases hq : fieldsK P (flatK P d) l (o + n.2) with
                | none => simp [hq] at h
                | some ks2 =>
                  simp [hq] at h; subst h
                  simp only [List.length_append] at h1 h2
                  obtain ⟨r1, r2, g1, g2, g3⟩ := eqCells_split ks1 ks2 _ _ r he (by simp; omega) (by simp; omega)
                  have hone : n.1 = false → n.2 = 1 := fun hf => by
                    have ha : aggOf P f.type = n.1 := by
                      unfold kOf at hk2
                      split at hk2
                      · cases hk2; rfl
                      · cases hk2
                    rw [hn]; exact flatK_one hk1 (by rw [ha, hf])
                  obtain ⟨va, ra, hva⟩ := part_val (w := w) hk2 xs f.offset (by omega) hone
                  obtain ⟨vb, rb, hvb⟩ := part_val (w := w) hk2 ys f.offset (by omega) hone
                  have hcr1 := (hc.drop o).take n.2
                  have hcr2 := (hd.drop o).take n.2
                  rw [← hn] at g1 g2
                  rw [ho] at ra rb hva hvb
                  have heq := ih f.type ks1 hk1 _ _ _ _ r1 hcr1 hcr2 (by simp; omega) (by simp; omega) g1 va vb hva hvb
                  have hrest := ihl (o + n.2) ks2 hq r2 (by omega) (by omega) (by simpa [List.drop_drop] using g2)
                  simp only [Op.eqFields]
                  rw [if_pos hname, ho]
                  simp only [Sem.run_bind, ra, rb, Result.andThen_ok, heq]
                  cases r1 with
                  | true => simp [hrest, g3]
                  | false => simp [g3]
              · cases h
            · cases h
        exact key fs.toList 0 ks h r (by omega) (by omega) (by simpa using he)
    · rename_i n e hu
      split at h
      · rename_i ks1 m hk1 hk2
        split at h
        · rename_i hcond
          obtain ⟨hm1, hm2⟩ := hcond
          cases h
          have ha : aggOf P t = true := by simp [aggOf, hu]
          simp only [valOf, ha, if_true] at hx hy
          subst hx; subst hy
          rw [show k + (d + 1) = (k + d) + 1 by omega]
          obtain ⟨i, hi, his⟩ := info_of (kOf_some hk2)
          rw [run_equalIn_array w (k + d) _ _ hu hi]
          have hcell : P.cellsOf e = m.2 := by simp [Program.cellsOf, hi, his]
          rw [hcell]
          have hxl : xs.length = cs.length := hc.length
          have hyl : ys.length = ds.length := hd.length
          have hone : m.1 = false → m.2 = 1 := fun hf => by
            have ha : aggOf P e = m.1 := by
              unfold kOf at hk2
              split at hk2
              · cases hk2; rfl
              · cases hk2
            rw [hm1]; exact flatK_one hk1 (by rw [ha, hf])
          have key : ∀ (q j : Nat) (r : Bool), j * m.2 + q * m.2 = cs.length → j * m.2 + q * m.2 = ds.length → eqCells (List.replicate q ks1).flatten (cs.drop (j * m.2)) (ds.drop (j * m.2)) = some r →
              (Op.eqItems (k + d) e m.2 xs.toArray ys.toArray (List.range' j q)).run P w = .ok r w := by
            intro q
            induction q with
            | zero =>
              intro j r h1 h2 he
              simp at h1 h2
              rw [List.drop_of_length_le (by omega), List.drop_of_length_le (by omega)] at he
              simp [eqCells] at he; subst he
              simp [Op.eqItems]
            | succ q ihq =>
              intro j r h1 h2 he
              rw [Nat.add_mul] at h1 h2
              simp only [List.replicate_succ, List.flatten_cons] at he
              have hlen : ((List.replicate q ks1).flatten).length = q * m.2 := by simp [hm1]
              obtain ⟨r1, r2, g1, g2, g3⟩ := eqCells_split ks1 _ _ _ r he (by simp only [hlen, List.length_drop]; omega) (by simp only [hlen, List.length_drop]; omega)
              obtain ⟨va, ra, hva⟩ := part_val (w := w) hk2 xs (j * m.2) (by omega) hone
              obtain ⟨vb, rb, hvb⟩ := part_val (w := w) hk2 ys (j * m.2) (by omega) hone
              have hcr1 := (hc.drop (j * m.2)).take m.2
              have hcr2 := (hd.drop (j * m.2)).take m.2
              rw [← hm1] at g1 g2
              have heq := ih e ks1 hk1 _ _ _ _ r1 hcr1 hcr2 (by simp; omega) (by simp; omega) g1 va vb hva hvb
              have hrest := ihq (j + 1) r2 (by rw [Nat.add_mul]; omega) (by rw [Nat.add_mul]; omega) (by simpa [List.drop_drop, Nat.add_mul] using g2)
              simp only [List.range'_succ, Op.eqItems]
              simp only [Sem.run_bind, ra, rb, Result.andThen_ok, heq]
              cases r1 with
              | true => simp [hrest, g3]
              | false => simp [g3]
          rw [List.range_eq_range']
          refine key n 0 r ?_ ?_ (by simpa using he)
          · simp at hl1 ⊢; rw [← hl1, hm1]
          · simp at hl2 ⊢; rw [← hl2, hm1]
        · cases h
      · cases h
    · cases h

end
end Go.Proofs.YtajpaagbfmjacaaGreatDoor.Am
/-
  THE ABSTRACT MACHINE, NINTH PART: the last operations, and all of them in one word. No program is named here.
-/
namespace Go.Proofs.YtajpaagbfmjacaaGreatDoor.Am
set_option linter.unusedSimpArgs false
set_option linter.unusedVariables false
open Go
section
variable {P : Program} {O F F' : Nat → Prop} {w w' : World} {B B' : List Loc} {ts : Nat → AV} {mem mem' : List Blk} {a : Act} {o : Oper}

theorem agg_of {t : TypeId} (h : aggOf P t = true) : (∃ fs, P.underlying t = some (.struct fs)) ∨ (∃ n e, P.underlying t = some (.array n e)) := by
  unfold aggOf at h
  split at h
  · exact .inl ⟨_, ‹_›⟩
  · exact .inr ⟨_, _, ‹_›⟩
  · cases h

theorem go_eqs (neg : Bool) (t : TypeId) (x y : Operand) (yt : TypeId) (ks : List EK) (cs ds : List AV) (r : Bool) (ho : o.op = .binOp (if neg then .neq else .eql) t x y yt) (hk : flatK P 6 t = some ks) (ha : aggOf P t = true)
    (hgd : P.eqGuardType P.depth t = false) (hx : (compOpd x).ev ts = .agg cs) (hy : (compOpd y).ev ts = .agg ds) (hl1 : ks.length = cs.length) (hl2 : ks.length = ds.length) (he : eqCells ks cs ds = some r)
    (hm : MR O F w B mem) (ht : TR F w B ts a) : Goes P O F w B o a (.ret (.v (.bool (if neg then !r else r)))) mem := by
  have h1 := opd_ok ht x
  rw [hx] at h1
  obtain ⟨xs, ex, hc⟩ := h1.of_agg
  have h2 := opd_ok ht y
  rw [hy] at h2
  obtain ⟨ys, ey, hd⟩ := h2.of_agg
  refine .pure (x := .bool (if neg then !r else r)) ?_ hm (.v _)
  have hq := eq_flat (w := w) 6 9994 t ks hk cs ds xs ys r hc hd hl1 hl2 he (.agg xs.toArray) (.agg ys.toArray) (by simp [valOf, ha]) (by simp [valOf, ha])
  have hg : ∀ op, (eqGuard op t x y (.agg xs.toArray) (.agg ys.toArray)).run P w = .ok () w := fun op => run_eqGuard_agg w op t x y _ _ hgd
  cases neg with
  | false =>
    simp only [execOp, ho, ex, ey, Bool.false_eq_true, if_false, Sem.run_bind, hg, Result.andThen_ok, run_eql_struct]
    rw [show (10000 : Nat) = 9994 + 6 from rfl, hq]; rfl
  | true =>
    simp only [execOp, ho, ex, ey, if_true, Sem.run_bind, hg, Result.andThen_ok, run_neq_struct]
    rw [show (10000 : Nat) = 9994 + 6 from rfl, hq]; rfl

theorem eqCells_len : ∀ (ks : List EK) (cs ds : List AV) (r : Bool), eqCells ks cs ds = some r → ks.length = cs.length ∧ ks.length = ds.length
  | [], [], [], _, _ => ⟨rfl, rfl⟩
  | ks, cs, ds, r, h => by
    unfold eqCells at h
    split at h
    · exact ⟨rfl, rfl⟩
    · split at h
      · rename_i ks _ _ c _ _ d _
        cases hr : eqCells ks c d with
        | none => simp [hr] at h
        | some r' => obtain ⟨h1, h2⟩ := eqCells_len ks c d r' hr; simp [h1, h2]; omega
      · cases h
    · rename_i ks _ c _ d
      cases hr : eqCells ks c d with
      | none => simp [hr] at h
      | some r' => obtain ⟨h1, h2⟩ := eqCells_len ks c d r' hr; simp [h1, h2]; omega
    · rename_i ks _ c _ d
      cases hr : eqCells ks c d with
      | none => simp [hr] at h
      | some r' => obtain ⟨h1, h2⟩ := eqCells_len ks c d r' hr; simp [h1, h2]; omega
    · cases h

theorem min_run : ∀ (xs : List AV) (c r : AV) (ys : List Value) (y : Value), minI c xs = some r → CR F w B xs ys → VR F w B c y → (∃ k n, c = .v (.int k n)) → ∃ z, (ys.foldlM Builtin.min2 y).run P w = .ok z w ∧ VR F w B r z
  | [], c, r, ys, y, h, hc, hv, _ => by cases hc; simp [minI] at h; subst h; exact ⟨y, by simp, hv⟩
  | x :: xs, c, r, ys, y, h, hc, hv, ⟨k, n, e⟩ => by
    subst e
    cases hc with
    | cons h1 t =>
      unfold minI at h
      split at h
      · rename_i heq; cases heq
      · rename_i k' a' b' rr heq1 heq2
        cases heq1; cases heq2
        have e1 := h1.of_v
        have e2 := hv.of_v
        subst e1; subst e2
        obtain ⟨z, hz, hvz⟩ := min_run xs _ r _ (.int k (if b' < n then b' else n)) h t (.v _) ⟨_, _, rfl⟩
        exact ⟨z, by simp only [List.foldlM_cons, Sem.run_bind, Builtin.min2, Sem.run_pure, Result.andThen_ok]; exact hz, hvz⟩
      · cases h

theorem max_run : ∀ (xs : List AV) (c r : AV) (ys : List Value) (y : Value), maxI c xs = some r → CR F w B xs ys → VR F w B c y → (∃ k n, c = .v (.int k n)) → ∃ z, (ys.foldlM Builtin.max2 y).run P w = .ok z w ∧ VR F w B r z
  | [], c, r, ys, y, h, hc, hv, _ => by cases hc; simp [maxI] at h; subst h; exact ⟨y, by simp, hv⟩
  | x :: xs, c, r, ys, y, h, hc, hv, ⟨k, n, e⟩ => by
    subst e
    cases hc with
    | cons h1 t =>
      unfold maxI at h
      split at h
      · rename_i heq; cases heq
      · rename_i k' a' b' rr heq1 heq2
        cases heq1; cases heq2
        have e1 := h1.of_v
        have e2 := hv.of_v
        subst e1; subst e2
        obtain ⟨z, hz, hvz⟩ := max_run xs _ r _ (.int k (if n < b' then b' else n)) h t (.v _) ⟨_, _, rfl⟩
        exact ⟨z, by simp only [List.foldlM_cons, Sem.run_bind, Builtin.max2, Sem.run_pure, Result.andThen_ok]; exact hz, hvz⟩
      · cases h

theorem minI_int {c r : AV} {xs : List AV} (h : minI c xs = some r) : xs = [] ∨ ∃ k n, c = .v (.int k n) := by
  unfold minI at h
  split at h
  · exact .inl rfl
  · exact .inr ⟨_, _, rfl⟩
  · cases h
theorem maxI_int {c r : AV} {xs : List AV} (h : maxI c xs = some r) : xs = [] ∨ ∃ k n, c = .v (.int k n) := by
  unfold maxI at h
  split at h
  · exact .inl rfl
  · exact .inr ⟨_, _, rfl⟩
  · cases h

theorem go_mnn (xs : Array Operand) (ats : Array TypeId) (y : AV) (r : List AV) (v : AV) (ho : o.op = .call { callee := .builtin .min, args := xs, argTypes := ats }) (hx : xs.toList.map (fun x => (compOpd x).ev ts) = y :: r) (hv : minI y r = some v)
    (hm : MR O F w B mem) (ht : TR F w B ts a) : Goes P O F w B o a (.ret v) mem := by
  have hc := mapCR ht xs.toList
  rw [hx] at hc
  cases hl : xs.toList.map a.eval with
  | nil => rw [hl] at hc; cases hc
  | cons z zs =>
    rw [hl] at hc
    cases hc with
    | cons h1 t =>
      have hargs : (xs.map a.eval).toList = z :: zs := by rw [← hl]; simp
      have hrun : ∃ q, (zs.foldlM Builtin.min2 z).run P w = .ok q w ∧ VR F w B v q := by
        rcases minI_int hv with rfl | ⟨k, n, e⟩
        · cases t; simp [minI] at hv; subst hv; exact ⟨z, by simp, h1⟩
        · exact min_run r y v zs z hv t h1 ⟨k, n, e⟩
      obtain ⟨q, hq, hvq⟩ := hrun
      refine .pure (x := q) ?_ hm hvq
      simp only [execOp, ho, resolve, invoke, builtin, Builtin.min_, Sem.run_bind, Sem.run_pure, Result.andThen_ok]
      rw [hargs]
      simp only [hq, Result.andThen_ok]

theorem go_mxx (xs : Array Operand) (ats : Array TypeId) (y : AV) (r : List AV) (v : AV) (ho : o.op = .call { callee := .builtin .max, args := xs, argTypes := ats }) (hx : xs.toList.map (fun x => (compOpd x).ev ts) = y :: r) (hv : maxI y r = some v)
    (hm : MR O F w B mem) (ht : TR F w B ts a) : Goes P O F w B o a (.ret v) mem := by
  have hc := mapCR ht xs.toList
  rw [hx] at hc
  cases hl : xs.toList.map a.eval with
  | nil => rw [hl] at hc; cases hc
  | cons z zs =>
    rw [hl] at hc
    cases hc with
    | cons h1 t =>
      have hargs : (xs.map a.eval).toList = z :: zs := by rw [← hl]; simp
      have hrun : ∃ q, (zs.foldlM Builtin.max2 z).run P w = .ok q w ∧ VR F w B v q := by
        rcases maxI_int hv with rfl | ⟨k, n, e⟩
        · cases t; simp [maxI] at hv; subst hv; exact ⟨z, by simp, h1⟩
        · exact max_run r y v zs z hv t h1 ⟨k, n, e⟩
      obtain ⟨q, hq, hvq⟩ := hrun
      refine .pure (x := q) ?_ hm hvq
      simp only [execOp, ho, resolve, invoke, builtin, Builtin.max_, Sem.run_bind, Sem.run_pure, Result.andThen_ok]
      rw [hargs]
      simp only [hq, Result.andThen_ok]

/-! ### Slices of slices and texts -/
theorem bound_run {x : Option Operand} {d n y : Nat} {code : BoundsCode} (ht : TR F w B ts a) (h : boundOf ts d (x.map compOpd) = some n) (hx : x ≠ none) (hle : n ≤ y) :
    ∃ v, x.map a.eval = some v ∧ (Instr.sliceBound v y code).run P w = .ok n w := by
  cases x with
  | none => exact absurd rfl hx
  | some x =>
    simp only [Option.map_some, boundOf] at h
    split at h
    · rename_i k hk
      split at h
      · rename_i h0
        cases h
        obtain ⟨ki, ek⟩ := int_of ht hk
        refine ⟨.int ki k, by simp [ek], ?_⟩
        simp only [Instr.sliceBound, asIntOf, Sem.run_bind, Sem.run_pure, Result.andThen_ok]
        rw [if_pos ⟨h0, by omega⟩]; rfl
      · cases h
    · cases h

theorem bounds_run {lo hi : Option Operand} {isS : Bool} {len cap l h : Nat} (ht : TR F w B ts a) (hl : boundOf ts 0 (lo.map compOpd) = some l) (hh : boundOf ts len (hi.map compOpd) = some h) (h1 : l ≤ h) (h2 : h ≤ len) (h3 : len ≤ cap) :
    (Instr.sliceBounds isS len cap (lo.map a.eval) (hi.map a.eval) none).run P w = .ok (l, h, cap) w := by
  cases hi with
  | none =>
    simp [boundOf] at hh; subst hh
    cases lo with
    | none => simp [boundOf] at hl; subst hl; simp [Instr.sliceBounds]
    | some x =>
      obtain ⟨v, e, r⟩ := bound_run (P := P) (w := w) (code := .sliceB) (y := len) ht hl (by simp) h1
      simp only [e]
      simp [Instr.sliceBounds, r]
  | some y =>
    obtain ⟨v2, e2, r2⟩ := bound_run (P := P) (w := w) (code := if isS = true then .sliceAcap else .sliceAlen) (y := cap) ht hh (by simp) (by omega)
    simp only [e2]
    cases lo with
    | none => simp [boundOf] at hl; subst hl; simp [Instr.sliceBounds, r2]
    | some x =>
      obtain ⟨v, e, r⟩ := bound_run (P := P) (w := w) (code := .sliceB) (y := h) ht hl (by simp) h1
      simp only [e]
      simp [Instr.sliceBounds, r, r2]

theorem cellsAll_drop {sz : Nat} : ∀ (es : List AV) (l : Nat), (∀ e ∈ es, e.cells.length = sz) → AV.cellsAll (es.drop l) = (AV.cellsAll es).drop (l * sz)
  | [], l, _ => by simp [AV.cellsAll]
  | e :: es, 0, _ => by simp
  | e :: es, l + 1, hs => by
    simp only [List.drop_succ_cons, AV.cellsAll]
    rw [cellsAll_drop es l (fun e he => hs e (by simp [he])), show (l + 1) * sz = e.cells.length + l * sz by rw [hs e (by simp), Nat.add_mul]; omega, List.drop_length_add_append]
theorem cellsAll_take {sz : Nat} : ∀ (es : List AV) (l : Nat), (∀ e ∈ es, e.cells.length = sz) → AV.cellsAll (es.take l) = (AV.cellsAll es).take (l * sz)
  | [], l, _ => by simp [AV.cellsAll]
  | e :: es, 0, _ => by simp [AV.cellsAll]
  | e :: es, l + 1, hs => by
    simp only [List.take_succ_cons, AV.cellsAll]
    rw [cellsAll_take es l (fun e he => hs e (by simp [he])), show (l + 1) * sz = e.cells.length + l * sz by rw [hs e (by simp), Nat.add_mul]; omega, List.take_length_add_append]

theorem go_slcS (t : TypeId) (x : Operand) (lo hi : Option Operand) (s : ByteArray) (l h : Nat) (ho : o.op = .slice t x lo hi none) (hu : P.underlying t = some .string) (hx : (compOpd x).ev ts = .v (.string s))
    (hl : boundOf ts 0 (lo.map compOpd) = some l) (hh : boundOf ts s.size (hi.map compOpd) = some h) (h1 : l ≤ h) (h2 : h ≤ s.size) (hm : MR O F w B mem) (ht : TR F w B ts a) :
    Goes P O F w B o a (.ret (.v (.string (s.extract l h)))) mem := by
  have hv := opd_ok ht x
  rw [hx] at hv
  have hb := bounds_run (P := P) (isS := false) (cap := s.size) (w := w) ht hl hh h1 h2 (Nat.le_refl _)
  refine .pure (x := .string (s.extract l h)) ?_ hm (.v _)
  simp only [execOp, ho, Instr.sliceAt, Instr.slice, Sem.run_bind, run_under hu, Result.andThen_ok, hv.of_v]
  simp [hb]

theorem go_slc (t e : TypeId) (x : Operand) (lo hi : Option Operand) (n sz : Nat) (es : List AV) (l h : Nat) (ho : o.op = .slice t x lo hi none) (hu : P.underlying t = some (.slice e)) (hn : szOf P e = some n)
    (hx : ((compOpd x).ev ts).frz mem = .fsl sz es) (hl : boundOf ts 0 (lo.map compOpd) = some l) (hh : boundOf ts es.length (hi.map compOpd) = some h) (h1 : l ≤ h) (h2 : h ≤ es.length) (hsz : sz = n ∨ es = [])
    (hm : MR O F w B mem) (ht : TR F w B ts a) : Goes P O F w B o a (.ret (.fsl sz ((es.drop l).take (h - l)))) (freezeIds ((compOpd x).ev ts).slices mem) := by
  have hv := opd_ok ht x
  obtain ⟨G, m1, hFG, hGO, hfr⟩ := MR.freezes ((compOpd x).ev ts).slices hm
  have hv2 := frz_ok hm hFG _ _ hv (fun id hid b t sz es h1 h2 => hfr id hid b t sz es h1 h2)
  rw [hx] at hv2
  obtain ⟨base, cap, ex, _, hs, hr⟩ := fsl_inv hv2
  have hcap : es.length ≤ cap ∨ es = [] := by
    by_cases hne : es = []
    · exact .inr hne
    · exact .inl (hr hne).1
  have key : (execOp a.eval o).run P w = .ok (.value (.slice (if cap = l then base else base.map (·.add (l * n))) (h - l) (cap - l))) w := by
    have hc : es.length ≤ cap := by
      rcases hcap with hc | hc
      · exact hc
      · rw [hc]; simp
    have hb := bounds_run (P := P) (isS := true) (cap := cap) (w := w) ht hl hh h1 h2 hc
    simp only [execOp, ho, Instr.sliceAt, Instr.slice, Sem.run_bind, run_under hu, Result.andThen_ok, ex]
    simp only [Option.map_none, hb, Result.andThen_ok, run_size hn, Sem.run_pure]
  refine .value (w' := w) key m1 ⟨hFG, fun _ _ h => h, fun _ _ => rfl⟩ (.refl O w) hGO ?_
  by_cases hlh : l = h
  · subst hlh
    simp only [Nat.sub_self, List.take_zero]
    exact .fslNil _ _
  · have hne : es ≠ [] := by intro h; subst h; simp at h2; omega
    obtain ⟨hc, b, p, xs, rfl, hF, hcr, hcell⟩ := hr hne
    have hszn : sz = n := hsz.resolve_right hne
    subst hszn
    rw [if_neg (by omega)]
    simp only [Option.map_some, add_plain]
    have hlen : ((es.drop l).take (h - l)).length = h - l := by simp; omega
    have hfin : VR G w B (.fsl sz ((es.drop l).take (h - l))) (.slice (some ⟨b, p + l * sz, none⟩) ((es.drop l).take (h - l)).length (cap - l)) := by
      refine .fsl (xs := (xs.drop (l * sz)).take ((h - l) * sz)) b (p + l * sz) (cap - l) ?_ (fun e he => hs e (List.mem_of_mem_drop (List.mem_of_mem_take he))) hF (fun j x hj => ?_) (by rw [hlen]; omega)
      · rw [cellsAll_take _ _ (fun e he => hs e (List.mem_of_mem_drop he)), cellsAll_drop _ _ hs]
        exact (hcr.drop _).take _
      · rw [List.getElem?_take] at hj
        split at hj
        · rw [List.getElem?_drop] at hj
          have := hcell _ _ hj
          rw [Nat.add_assoc]; exact this
        · cases hj
    rw [hlen] at hfin
    exact hfin

end
end Go.Proofs.YtajpaagbfmjacaaGreatDoor.Am
/-
  THE ABSTRACT MACHINE, TENTH PART: what is built; and all operations in one word. No program is named here.
-/
namespace Go.Proofs.YtajpaagbfmjacaaGreatDoor.Am
set_option linter.unusedSimpArgs false
set_option linter.unusedVariables false
open Go
section
variable {P : Program} {O F F' : Nat → Prop} {w w' : World} {B B' : List Loc} {ts : Nat → AV} {mem mem' : List Blk} {a : Act} {o : Oper}

theorem foldl_set (off : Nat) : ∀ (vs : List Value) (k : Nat) (cells : Array Value), off + k + vs.length ≤ cells.size →
    ((vs.zipIdx k).foldl (fun (cs : Array Value) (p : Value × Nat) => cs.setIfInBounds (off + p.2) p.1) cells).toList = spliceV cells.toList (off + k) vs
  | [], k, cells, _ => by simp [spliceV]
  | v :: vs, k, cells, h => by
    simp only [List.length_cons] at h
    simp only [List.zipIdx_cons, List.foldl_cons]
    rw [foldl_set off vs (k + 1) _ (by simp; omega)]
    simp only [spliceV, Array.toList_setIfInBounds, List.length_cons]
    apply List.ext_getElem?
    intro j
    simp only [List.getElem?_append, List.getElem?_take, List.getElem?_drop, List.length_append, List.length_take, List.length_set, Array.length_toList, List.getElem?_set, List.length_cons]
    have e1 : min (off + (k + 1)) cells.size = off + k + 1 := by omega
    have e2 : min (off + k) cells.size = off + k := by omega
    simp only [e1, e2]
    by_cases c1 : j < off + k
    · simp [c1, show j < off + k + 1 by omega, show j < off + (k + 1) by omega, show ¬ off + k = j by omega, show j < off + k + 1 + vs.length by omega, show j < off + k + (vs.length + 1) by omega]
    · by_cases c2 : j = off + k
      · subst c2
        simp [show off + k < cells.size by omega, show off + k < off + (k + 1) by omega]
        omega
      · by_cases c3 : j < off + k + 1 + vs.length
        · simp [c1, c3, show j < off + k + (vs.length + 1) by omega, show ¬ j < off + k + 1 by omega]
          rw [show j - (off + k) = (j - (off + k + 1)) + 1 by omega, List.getElem?_cons_succ]
        · simp only [c1, c3, show ¬ j < off + k + (vs.length + 1) by omega, show ¬ j < off + k + 1 by omega, if_false]
          rw [if_neg (by omega)]
          congr 1
          omega

theorem fill_step {place : Nat → Option (Nat × Nat)} {i off n : Nat} {v : Value} {cells : Array Value} {rest : List (Nat × Value)} (hp : place i = some (off, n)) (hn : v.cells.size = n) (hl : off + n ≤ cells.size) :
    ∃ cells' : Array Value, Instr.fill place cells ((i, v) :: rest) = Instr.fill place cells' rest ∧ cells'.toList = spliceV cells.toList off v.cells.toList := by
  refine ⟨_, by simp only [Instr.fill, hp, hn]; rw [if_neg (by simp; omega)], ?_⟩
  have := foldl_set off v.cells.toList 0 cells (by simp; omega)
  simp only [Nat.add_zero] at this
  rw [← this, ← Array.foldl_toList]
  simp

theorem fill_ok {place : Nat → Option (Nat × Nat)} : ∀ (parts : List (Nat × Operand)) (ps : List (Nat × Nat × AOpd)) (cs cs' : List AV) (cells : Array Value),
    (parts.length = ps.length ∧ ∀ (j i : Nat) (x : Operand) (off n : Nat) (y : AOpd), parts[j]? = some (i, x) → ps[j]? = some (off, n, y) → place i = some (off, n) ∧ y = compOpd x) → TR F w B ts a → CR F w B cs cells.toList →
    fillA cs (ps.map fun p => (p.1, p.2.1, p.2.2.ev ts)) = some cs' → ∃ cells' : Array Value, Instr.fill place cells (parts.map fun p => (p.1, a.eval p.2)) = some cells' ∧ CR F w B cs' cells'.toList
  | [], ps, cs, cs', cells, hp, ht, hc, hf => by
    have : ps = [] := List.eq_nil_of_length_eq_zero hp.1.symm
    subst this
    simp [fillA] at hf; subst hf
    exact ⟨cells, rfl, hc⟩
  | (i, x) :: parts, ps, cs, cs', cells, hp, ht, hc, hf => by
    cases ps with
    | nil => simp at hp
    | cons p ps =>
      obtain ⟨off, n, y⟩ := p
      obtain ⟨h1, h2⟩ := hp.2 0 i x off n y rfl rfl
      subst h2
      simp only [List.map_cons, fillA] at hf
      split at hf
      · rename_i hcond
        obtain ⟨hs, hl, hle⟩ := hcond
        obtain ⟨hcx, _⟩ := (opd_ok ht x).shaped hs
        have hsz : (a.eval x).cells.size = n := by rw [← Array.length_toList, hcx.length, hl]
        have hcl : cells.size = cs.length := by rw [← Array.length_toList, hc.length]
        obtain ⟨cells1, e1, e2⟩ := fill_step (cells := cells) (rest := parts.map fun p => (p.1, a.eval p.2)) h1 hsz (by omega)
        have hc1 : CR F w B (splice cs off ((compOpd x).ev ts).cells) cells1.toList := by rw [e2]; exact hc.splice hcx off
        obtain ⟨cells2, e3, e4⟩ := fill_ok parts ps _ cs' cells1 ⟨by simpa using hp.1, fun j i' x' off' n' y' hj1 hj2 => hp.2 (j + 1) i' x' off' n' y' (by simpa using hj1) (by simpa using hj2)⟩ ht hc1 hf
        exact ⟨cells2, by simp only [List.map_cons]; rw [e1, e3], e4⟩
      · cases hf

theorem partsS_ok {fs : Array Field} : ∀ (parts : List (Nat × Operand)) (ps : List (Nat × Nat × AOpd)), partsS P fs parts = some ps →
    parts.length = ps.length ∧ ∀ (j i : Nat) (x : Operand) (off n : Nat) (y : AOpd), parts[j]? = some (i, x) → ps[j]? = some (off, n, y) → (∃ f : Field, fs[i]? = some f ∧ f.offset = off ∧ szOf P f.type = some n) ∧ y = compOpd x
  | [], ps, h => by simp [partsS] at h; subst h; exact ⟨rfl, fun j i x off n y h => by simp at h⟩
  | (i, x) :: parts, ps, h => by
    unfold partsS at h
    split at h
    · rename_i f q hf hq
      cases hs : szOf P f.type with
      | none => simp [hs] at h
      | some n =>
        simp [hs] at h; subst h
        obtain ⟨h1, h2⟩ := partsS_ok parts q hq
        refine ⟨by simp [h1], fun j i' x' off n' y hj1 hj2 => ?_⟩
        cases j with
        | zero => simp at hj1 hj2; obtain ⟨rfl, rfl⟩ := hj1; obtain ⟨rfl, rfl, rfl⟩ := hj2; exact ⟨⟨f, hf, rfl, hs⟩, rfl⟩
        | succ j => exact h2 j i' x' off n' y (by simpa using hj1) (by simpa using hj2)
    · cases h

theorem places_run {fs : Array Field} (h : fs.all (fun (f : Field) => (szOf P f.type).isSome) = true) :
    ∃ pl : Array (Nat × Nat), (fs.mapM (fun (f : Field) => do pure (f.offset, ← sizeOf f.type)) : Sem (Array (Nat × Nat))).run P w = .ok pl w ∧ ∀ (i : Nat) (f : Field) (n : Nat), fs[i]? = some f → szOf P f.type = some n → pl[i]? = some (f.offset, n) := by
  obtain ⟨l⟩ := fs
  have hl : ∀ f ∈ l, (szOf P f.type).isSome = true := by simpa using h
  have key : ∀ l : List Field, (∀ f ∈ l, (szOf P f.type).isSome = true) →
      ∃ pl : List (Nat × Nat), (l.mapM (fun (f : Field) => do pure (f.offset, ← sizeOf f.type)) : Sem (List (Nat × Nat))).run P w = .ok pl w ∧ ∀ (i : Nat) (f : Field) (n : Nat), l[i]? = some f → szOf P f.type = some n → pl[i]? = some (f.offset, n) := by
    intro l
    induction l with
    | nil => intro _; exact ⟨[], by simp, fun i f n h => by simp at h⟩
    | cons f l ih =>
      intro hl
      obtain ⟨pl, r, hpl⟩ := ih (fun f hf => hl f (by simp [hf]))
      obtain ⟨n, hn⟩ := Option.isSome_iff_exists.1 (hl f (by simp))
      refine ⟨(f.offset, n) :: pl, by simp only [List.mapM_cons, Sem.run_bind, run_size hn, Result.andThen_ok, Sem.run_pure, r], fun i f' n' hi hn' => ?_⟩
      cases i with
      | zero => simp at hi; subst hi; rw [hn] at hn'; cases hn'; rfl
      | succ i => simp at hi; simpa using hpl i f' n' hi hn'
  obtain ⟨pl, r, hpl⟩ := key l hl
  refine ⟨pl.toArray, ?_, fun i f n hi hn => by simpa using hpl i f n (by simpa using hi) hn⟩
  rw [List.mapM_toArray]
  simp only [Sem.run_map, r, Result.andThen_ok]

theorem go_bldS (t : TypeId) (parts : Array (Nat × Operand)) (z : List Value) (fs : Array Field) (ps : List (Nat × Nat × AOpd)) (cs : List AV) (ho : o.op = .build t parts) (hz : zeroOf P t = some z) (hu : P.underlying t = some (.struct fs))
    (hall : fs.all (fun (f : Field) => (szOf P f.type).isSome) = true) (hp : partsS P fs parts.toList = some ps) (hf : fillA (z.map .v) (ps.map fun p => (p.1, p.2.1, p.2.2.ev ts)) = some cs)
    (hm : MR O F w B mem) (ht : TR F w B ts a) : Goes P O F w B o a (.ret (.agg cs)) mem := by
  obtain ⟨v, hv, hvz⟩ := zero_run (P := P) (w := w) hz
  obtain ⟨pl, hpl, hplat⟩ := places_run (P := P) (w := w) hall
  obtain ⟨h1, h2⟩ := partsS_ok _ _ hp
  obtain ⟨cells', e1, e2⟩ := fill_ok (a := a) (place := (pl[·]?)) parts.toList ps (z.map .v) cs v.cells
    ⟨h1, fun j i x off n y hj1 hj2 => by obtain ⟨⟨f, g1, g2, g3⟩, g4⟩ := h2 j i x off n y hj1 hj2; subst g2; exact ⟨hplat i f n g1 g3, g4⟩⟩ ht (by rw [hvz]; exact CR.lits z) hf
  refine .pure (x := .agg cells') ?_ hm (by simpa using VR.agg e2)
  have hmap : (parts.map fun p => (p.1, a.eval p.2)).toList = parts.toList.map fun p => (p.1, a.eval p.2) := by simp
  simp only [execOp, ho, Instr.build, Sem.run_bind, hv, Result.andThen_ok, run_under hu, hpl]
  have e1' : Instr.fill (fun x => pl[x]?) v.cells (Array.map (fun x => (x.1, a.eval x.2)) parts).toList = some cells' := by rw [hmap]; exact e1
  simp only [e1', Sem.run_pure, Result.andThen_ok]

theorem go_bldA (t e : TypeId) (len : Nat) (parts : Array (Nat × Operand)) (z : List Value) (n : Nat) (cs : List AV) (ho : o.op = .build t parts) (hz : zeroOf P t = some z) (hu : P.underlying t = some (.array len e)) (hn : szOf P e = some n)
    (hf : fillA (z.map .v) ((parts.toList.map fun (i, x) => (i * n, n, compOpd x)).map fun p => (p.1, p.2.1, p.2.2.ev ts)) = some cs)
    (hm : MR O F w B mem) (ht : TR F w B ts a) : Goes P O F w B o a (.ret (.agg cs)) mem := by
  obtain ⟨v, hv, hvz⟩ := zero_run (P := P) (w := w) hz
  obtain ⟨cells', e1, e2⟩ := fill_ok (a := a) (place := fun i => some (i * n, n)) parts.toList (parts.toList.map fun (i, x) => (i * n, n, compOpd x)) (z.map .v) cs v.cells
    ⟨by simp, fun j i x off n' y hj1 hj2 => by simp [hj1] at hj2; obtain ⟨rfl, rfl, rfl⟩ := hj2; exact ⟨rfl, rfl⟩⟩ ht (by rw [hvz]; exact CR.lits z) hf
  refine .pure (x := .agg cells') ?_ hm (by simpa using VR.agg e2)
  have hmap : (parts.map fun p => (p.1, a.eval p.2)).toList = parts.toList.map fun p => (p.1, a.eval p.2) := by simp
  simp only [execOp, ho, Instr.build, Sem.run_bind, hv, Result.andThen_ok, run_under hu, run_size hn]
  have e1' : Instr.fill (fun i => some (i * n, n)) v.cells (Array.map (fun x => (x.1, a.eval x.2)) parts).toList = some cells' := by rw [hmap]; exact e1
  simp only [e1', Sem.run_pure, Result.andThen_ok]

/-- A slice of so many parts, given one by one. -/
theorem fill_row {sz : Nat} : ∀ (vs : List Value) (k : Nat) (cells : Array Value), (∀ v ∈ vs, v.cells.size = sz) → (k + vs.length) * sz = cells.size →
    ∃ cells' : Array Value, Instr.fill (fun i => some (i * sz, sz)) cells ((List.range' k vs.length).zip vs) = some cells' ∧ cells'.toList = cells.toList.take (k * sz) ++ vs.flatMap fun v => v.cells.toList
  | [], k, cells, _, hl => ⟨cells, rfl, by simp at hl; simp; rw [List.take_of_length_le (by simp; omega)]⟩
  | v :: vs, k, cells, hs, hl => by
    have hv := hs v (by simp)
    simp only [List.length_cons] at hl
    have hmul : (k + (vs.length + 1)) * sz = k * sz + sz + vs.length * sz := by rw [Nat.add_mul, Nat.add_mul]; omega
    obtain ⟨c1, e1, e2⟩ := fill_step (place := fun i => some (i * sz, sz)) (i := k) (cells := cells) (rest := (List.range' (k + 1) vs.length).zip vs) rfl hv (by omega)
    have hc1 : c1.size = cells.size := by
      rw [← Array.length_toList, e2]; simp [spliceV, hv]; omega
    obtain ⟨c2, e3, e4⟩ := fill_row vs (k + 1) c1 (fun v hv => hs v (by simp [hv])) (by rw [hc1, ← hl]; congr 1; omega)
    refine ⟨c2, ?_, ?_⟩
    · simp only [List.length_cons, List.range'_succ, List.zip_cons_cons]
      rw [e1, e3]
    · rw [e4, e2]
      simp only [spliceV, List.flatMap_cons, Array.length_toList, hv]
      rw [← List.append_assoc]
      congr 1
      rw [show (k + 1) * sz = k * sz + sz by rw [Nat.add_mul]; omega]
      refine List.take_left' ?_
      simp [hv]; omega

theorem go_bsl (t e : TypeId) (len n : Nat) (parts : Array (Nat × Operand)) (z : List Value) (ho : o.op = .buildSlice t len parts) (he : P.underlying t = some (.slice e)) (hn : szOf P e = some n) (hz : zeroOf P e = some z)
    (h0 : n ≠ 0) (hzl : z.length = n) (hidx : parts.toList.map (·.1) = List.range len) (hle : len * n ≤ 16777216)
    (hs : ∀ x ∈ parts.toList, ((compOpd x.2).ev ts).shaped = true ∧ ((compOpd x.2).ev ts).isBare = true ∧ ((compOpd x.2).ev ts).cells.length = n)
    (hO : ∀ b, w.heap.size ≤ b → O b) (hm : MR O F w B mem) (ht : TR F w B ts a) :
    Goes P O F w B o a (.ret (.osl mem.length)) (mem ++ [.arr e n (parts.toList.map fun p => (compOpd p.2).ev ts)]) := by
  have hlen : parts.toList.length = len := by have := congrArg List.length hidx; simpa using this
  have hcells : ∀ (l : List (Nat × Operand)), (∀ x ∈ l, ((compOpd x.2).ev ts).shaped = true ∧ ((compOpd x.2).ev ts).isBare = true ∧ ((compOpd x.2).ev ts).cells.length = n) →
      CR F w [] (AV.cellsAll (l.map fun p => (compOpd p.2).ev ts)) ((l.map fun p => a.eval p.2).flatMap fun v => v.cells.toList) ∧ ∀ v ∈ l.map (fun p => a.eval p.2), v.cells.size = n := by
    intro l
    induction l with
    | nil => intro _; exact ⟨.nil, by simp⟩
    | cons p l ih =>
      intro hs
      obtain ⟨h1, h2, h3⟩ := hs p (by simp)
      obtain ⟨g1, g2⟩ := ih (fun x hx => hs x (by simp [hx]))
      have hv := (opd_ok ht p.2).toBare h2
      obtain ⟨hc, _⟩ := hv.shaped h1
      refine ⟨hc.append g1, fun v hv => ?_⟩
      simp only [List.map_cons, List.mem_cons] at hv
      rcases hv with rfl | hv
      · rw [← Array.length_toList, hc.length, h3]
      · exact g2 v hv
  obtain ⟨hcr, hvs⟩ := hcells parts.toList hs
  obtain ⟨zv, hzv, hzc⟩ := zero_run (P := P) (w := w) hz
  have hzip : parts.toList.map (fun p => (p.1, a.eval p.2)) = (List.range' 0 (parts.toList.map fun p => a.eval p.2).length).zip (parts.toList.map fun p => a.eval p.2) := by
    rw [List.length_map, hlen, ← List.range_eq_range', ← hidx]
    generalize parts.toList = l
    induction l with
    | nil => rfl
    | cons p l ih => simp [ih]
  obtain ⟨cells', e1, e2⟩ := fill_row (sz := n) (parts.toList.map fun p => a.eval p.2) 0 ((Array.range (len * n)).map (fun i => zv.cells[i % zv.cells.size]!)) hvs (by simp [hlen])
  rw [← hzip] at e1
  simp only [Nat.zero_mul, List.take_zero, List.nil_append] at e2
  have hsize : cells'.size = len * n := by
    rw [← Array.length_toList, e2, hcr.length, AV.cellsAll_length (sz := n) (by intro x hx; simp only [List.mem_map] at hx; obtain ⟨p, hp, rfl⟩ := hx; exact (hs p hp).2.2)]
    simp [hlen]
  have hrun : (execOp a.eval o).run P w = .ok (.value (.slice (some ⟨w.heap.size, 0, none⟩) len len)) (w.alloc (.cells cells' e)) := by
    have hmap : (parts.map fun p => (p.1, a.eval p.2)).toList = parts.toList.map fun p => (p.1, a.eval p.2) := by simp
    simp only [execOp, ho, Instr.buildSlice, Sem.run_bind, run_under he, Result.andThen_ok, run_size hn]
    rw [if_neg (by omega)]
    by_cases hl0 : len * n = 0
    · have hl : len = 0 := by rcases Nat.mul_eq_zero.1 hl0 with h | h; exact h; exact absurd h h0
      subst hl
      have hpl : parts.toList = [] := List.eq_nil_of_length_eq_zero hlen
      have hpa : parts = #[] := by apply Array.toList_inj.1; simpa using hpl
      subst hpa
      have : cells' = #[] := by apply Array.eq_empty_of_size_eq_zero; simpa using hsize
      subst this
      simp [Instr.fill, newRow, show Array.range 0 = #[] from rfl]
    · rw [if_neg hl0]
      simp only [Sem.run_bind, hzv, Result.andThen_ok, Sem.run_pure]
      have e1' : Instr.fill (fun i => some (i * n, n)) ((Array.range (len * n)).map (fun i => zv.cells[i % zv.cells.size]!)) (Array.map (fun x => (x.1, a.eval x.2)) parts).toList = some cells' := by rw [hmap]; exact e1
      simp only [e1', newRow, Sem.run_bind, run_newObj, Result.andThen_ok, Sem.run_pure, World.alloc_eq]
  have hrow : (w.alloc (.cells cells' e)).ownsRow 0 e n (.slice (some ⟨w.heap.size, 0, none⟩) len len) (0 + len) ([] ++ (parts.toList.map fun p => a.eval p.2).flatMap fun v => v.cells.toList) := by
    rw [Nat.zero_add, List.nil_append, ← e2]
    refine ⟨by simpa using hsize, .inr ⟨w.heap.size, len, cells', rfl, Nat.zero_le _, alloc_new w _, Nat.le_refl _, ?_, hsize, ?_⟩⟩
    · have : len ≤ len * n := Nat.le_mul_of_pos_right len (Nat.pos_of_ne_zero h0)
      simp only [maxLen]; omega
    · rw [List.take_of_length_le (by simp [hsize])]
  obtain ⟨l, m1, m2, m3, m4⟩ := own_append (O := O) (mem := mem) (row := none) (es := []) (es2 := parts.toList.map fun p => (compOpd p.2).ev ts) hm hO (Nat.pos_of_ne_zero h0) hrow (World.grownBy_alloc w _ none) rfl (by simp [hlen]) .nil hcr
    (fun e he => by simp only [List.nil_append, List.mem_map] at he; obtain ⟨p, hp, rfl⟩ := he; exact (hs p hp).2.2) (fun b hb => by cases hb) (fun b hb => by cases hb; exact .inr (Nat.le_refl _))
  exact .value hrun m1 m2 m3 (fun _ h => .inl h) m4

end
end Go.Proofs.YtajpaagbfmjacaaGreatDoor.Am
