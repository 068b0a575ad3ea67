/-
  THE ABSTRACT MACHINE, FIFTH PART: indexes, slices, conversions, and what is made. No program is named here.
-/
import Derived.Test.YtjmgnodeohmboaaDoorAm3
import Derived.Lib.AppendStr
namespace Go.Proofs.YtjmgnodeohmboaaDoor.Am
set_option linter.unusedSimpArgs false
set_option linter.unusedVariables false
open Go
section
variable {P : Program} {O F F' : Nat → Prop} {w w' : World} {B B' : List Loc} {ts : Nat → AV} {mem mem' : List Blk} {a : Act} {o : Oper}

theorem fsl_at {sz : Nat} {es : List AV} {e : AV} {i : Nat} {b p : Nat} {xs : List Value} (h : CR F w [] (AV.cellsAll es) xs) (hs : ∀ e ∈ es, e.cells.length = sz) (hF : F b)
    (hx : ∀ j z, xs[j]? = some z → w.cell? ⟨b, p + j, none⟩ = some z) (he : es[i]? = some e) : VR F w B (.fptr e 0) (.pointer (some ⟨b, p + i * sz, none⟩)) := by
  have hcr := (h.drop (i * sz)).take sz
  have hes : (AV.cellsAll es).length = es.length * sz := AV.cellsAll_length hs
  have hel : e.cells.length = sz := hs e (List.mem_of_getElem? he)
  have heq : ((AV.cellsAll es).drop (i * sz)).take sz = e.cells := by
    apply List.ext_getElem?
    intro j
    rw [List.getElem?_take]
    split
    · rename_i hj
      rw [List.getElem?_drop, AV.cellsAll_at hs he j hj]
    · rw [List.getElem?_eq_none (by omega)]
  rw [heq] at hcr
  refine VR.fptr b (p + i * sz) 0 hcr hF (fun j z hj => ?_)
  rw [List.getElem?_take] at hj
  split at hj
  · rw [List.getElem?_drop] at hj
    have := hx _ _ hj
    rw [show p + i * sz + j = p + (i * sz + j) by omega]; exact this
  · cases hj

/-- A slice that nobody writes. -/
theorem fsl_inv {sz : Nat} {es : List AV} {y : Value} (h : VR F w B (.fsl sz es) y) : ∃ base cap, y = .slice base es.length cap ∧ es.length ≤ cap + es.length ∧ (∀ e ∈ es, e.cells.length = sz) ∧
    (es ≠ [] → es.length ≤ cap ∧ ∃ b p xs, base = some ⟨b, p, none⟩ ∧ F b ∧ CR F w [] (AV.cellsAll es) xs ∧ ∀ j z, xs[j]? = some z → w.cell? ⟨b, p + j, none⟩ = some z) := by
  cases h with
  | fslNil base cap => exact ⟨base, cap, rfl, by simp, fun e he => by simp at he, fun h => absurd rfl h⟩
  | fsl b p cap h hs hF hx hcap => exact ⟨_, cap, rfl, by omega, hs, fun _ => ⟨hcap, b, p, _, rfl, hF, h, hx⟩⟩

theorem frz_fsl {id sz : Nat} {es : List AV} {y : Value} (hi : mem[id]? = some (.frz (.fsl sz es))) (hm : MR O F w B mem) (hv : VR F w B (.osl id) y) : VR F w B (.fsl sz es) y := by
  have hlt := (List.getElem?_eq_some_iff.1 hi).1
  obtain ⟨l, hl⟩ : ∃ l, B[id]? = some l := ⟨_, List.getElem?_eq_getElem (by rw [hm.len]; exact hlt)⟩
  have hbr := hm.br id _ l hi hl
  match l, hbr, hl with
  | .arr sz' g n cap, hb, hl =>
    cases hv with
    | osl h => rw [hl] at h; cases h; exact bare_up hb

theorem go_iaxF (t e : TypeId) (x i : Operand) (sz : Nat) (es : List AV) (k : Int) (el : AV) (ho : o.op = .indexAddr t x i) (h1 : P.underlying t = some (.slice e)) (h2 : szOf P e = some sz)
    (hx : (compOpd x).ev ts = .fsl sz es ∨ ∃ id, (compOpd x).ev ts = .osl id ∧ mem[id]? = some (.frz (.fsl sz es))) (hi : intOf? ((compOpd i).ev ts) = some k) (h0 : 0 ≤ k) (he : es[k.toNat]? = some el)
    (hm : MR O F w B mem) (ht : TR F w B ts a) : Goes P O F w B o a (.ret (.fptr el 0)) mem := by
  have h := opd_ok ht x
  have h' : VR F w B (.fsl sz es) (a.eval x) := by
    rcases hx with hx | ⟨id, hx, hid⟩
    · rw [hx] at h; exact h
    · rw [hx] at h; exact frz_fsl hid hm h
  obtain ⟨ki, ei⟩ := int_of ht hi
  have hlt := (List.getElem?_eq_some_iff.1 he).1
  obtain ⟨base, cap, ex, _, hs, hr⟩ := fsl_inv h'
  obtain ⟨hcap, b, p, xs, rfl, hF, hc, hcell⟩ := hr (by intro h; subst h; simp at he)
  refine .pure (x := .pointer (some ⟨b, p + k.toNat * sz, none⟩)) ?_ hm (fsl_at hc hs hF hcell he)
  simp only [execOp, ho, ex, ei, Instr.indexAt, asIntOf, Sem.run_bind, run_under h1, Result.andThen_ok, Sem.run_pure]
  rw [if_pos ⟨h0, by omega⟩]
  simp only [Sem.run_bind, run_size h2, Result.andThen_ok, Sem.run_pure, add_plain]

theorem go_iaxO (t e : TypeId) (x i : Operand) (tt sz id : Nat) (es : List AV) (k : Int) (ho : o.op = .indexAddr t x i) (h1 : P.underlying t = some (.slice e)) (h2 : szOf P e = some sz)
    (hx : (compOpd x).ev ts = .osl id) (hid : mem[id]? = some (.arr tt sz es)) (hi : intOf? ((compOpd i).ev ts) = some k) (h0 : 0 ≤ k) (hk : k < es.length)
    (hm : MR O F w B mem) (ht : TR F w B ts a) : Goes P O F w B o a (.ret (.ptr id k.toNat 0)) mem := by
  have h := opd_ok ht x
  rw [hx] at h
  obtain ⟨ki, ei⟩ := int_of ht hi
  have hlt := (List.getElem?_eq_some_iff.1 hid).1
  obtain ⟨l, hl⟩ : ∃ l, B[id]? = some l := ⟨_, List.getElem?_eq_getElem (by rw [hm.len]; exact hlt)⟩
  have hbr := hm.br id _ l hid hl
  match l, hbr, hl with
  | .arr sz' g n cap, ⟨h3, h4, h5, h6, xs, h7, h8⟩, hl =>
    subst h3; subst h5
    cases g with
    | none =>
      rcases h7.2 with ⟨_, h9⟩ | ⟨g', cap', cur, h9, _⟩
      · have := List.eq_nil_of_length_eq_zero h9; subst this; simp at hk; omega
      · simp [head] at h9
    | some g =>
      have ex : a.eval x = .slice (some ⟨g, 0, none⟩) es.length cap := by
        generalize hy : a.eval x = y at h
        cases h with
        | osl h => rw [hl] at h; cases h; rfl
      refine .pure (x := .pointer (some ⟨g, k.toNat * sz + 0, none⟩)) ?_ hm (.ptrA hl)
      simp only [execOp, ho, ex, ei, Instr.indexAt, asIntOf, Sem.run_bind, run_under h1, Result.andThen_ok, Sem.run_pure]
      rw [if_pos ⟨h0, by omega⟩]
      simp only [Sem.run_bind, run_size h2, Result.andThen_ok, Sem.run_pure, add_plain, Nat.zero_add, Nat.add_zero]

theorem go_iaa (t e : TypeId) (x i : Operand) (len sz : Nat) (k : Int) (v : AV) (ho : o.op = .indexAddr t x i) (h1 : P.underlying t = some (.array len e)) (h2 : szOf P e = some sz)
    (hx : (∃ id j q, (compOpd x).ev ts = .ptr id j q ∧ v = .ptr id j (q + k.toNat * sz)) ∨ (∃ e q, (compOpd x).ev ts = .fptr e q ∧ v = .fptr e (q + k.toNat * sz))) (hi : intOf? ((compOpd i).ev ts) = some k) (h0 : 0 ≤ k) (hk : k < len)
    (hm : MR O F w B mem) (ht : TR F w B ts a) : Goes P O F w B o a (.ret v) mem := by
  have h := opd_ok ht x
  obtain ⟨ki, ei⟩ := int_of ht hi
  have key : ∀ b p, a.eval x = .pointer (some ⟨b, p, none⟩) → (execOp a.eval o).run P w = .ok (.value (.pointer (some ⟨b, p + k.toNat * sz, none⟩))) w := by
    intro b p ex
    simp only [execOp, ho, ex, ei, Instr.indexAt, asIntOf, Sem.run_bind, run_under h1, Result.andThen_ok, Sem.run_pure, Instr.sureAddr]
    rw [if_pos ⟨h0, by omega⟩]
    simp only [Sem.run_bind, run_size h2, Result.andThen_ok, Sem.run_pure, add_plain]
  rcases hx with ⟨id, j, q, hx, rfl⟩ | ⟨e, q, hx, rfl⟩
  · rw [hx] at h
    generalize hy : a.eval x = y at h
    cases h with
    | ptrV h => exact .pure (key _ _ hy) hm (.ptrV h)
    | ptrA h => refine .pure (key _ _ hy) hm ?_; rw [Nat.add_assoc]; exact .ptrA h
  · rw [hx] at h
    generalize hy : a.eval x = y at h
    cases h with
    | fptr b a0 _ h hF hc => refine .pure (key _ _ hy) hm ?_; rw [Nat.add_assoc]; exact .fptr b a0 _ h hF hc

theorem bytes_cells {es : List AV} {l : List UInt8} {xs : List Value} (h : bytesOf es = some l) (hc : CR F w B es xs) : ∃ ns : List Int, xs = ns.map (Value.int .u8) ∧ l = ns.map fun n => UInt8.ofNat n.toNat := by
  induction es generalizing l xs with
  | nil => simp [bytesOf] at h; subst h; cases hc; exact ⟨[], rfl, rfl⟩
  | cons e es ih =>
    cases hc with
    | cons h1 h2 =>
      unfold bytesOf at h
      split at h
      · rename_i heq; cases heq
      · rename_i n r heq
        cases heq
        cases hb : bytesOf es with
        | none => simp [hb] at h
        | some l' =>
          simp [hb] at h
          obtain ⟨ns, rfl, rfl⟩ := ih hb h2
          refine ⟨n :: ns, ?_, by rw [← h]; rfl⟩
          rw [h1.of_v]; rfl
      · cases h

theorem cellsAll_one {es : List AV} {l : List UInt8} (h : bytesOf es = some l) : AV.cellsAll es = es := by
  induction es generalizing l with
  | nil => rfl
  | cons e es ih =>
    unfold bytesOf at h
    split at h
    · rename_i heq; cases heq
    · rename_i n r heq
      cases heq
      cases hb : bytesOf es with
      | none => simp [hb] at h
      | some l' => simp only [AV.cellsAll, AV.cells, List.singleton_append]; rw [ih hb]
    · cases h

theorem foldl_push (ns : List Int) : ∀ s : ByteArray, ns.foldl (fun r n => r.push (UInt8.ofNat n.toNat)) s = ⟨(s.data.toList ++ ns.map fun n => UInt8.ofNat n.toNat).toArray⟩ := by
  induction ns with
  | nil => intro s; simp
  | cons n ns ih => intro s; rw [List.foldl_cons, ih]; congr 1; simp [ByteArray.push]

theorem go_b2s (s d e : TypeId) (x : Operand) (sz : Nat) (es : List AV) (l : List UInt8) (ho : o.op = .convert s d x) (h1 : P.underlying s = some (.slice e)) (h2 : P.underlying d = some .string) (h3 : P.underlying e = some (.int .u8))
    (hx : elems mem ((compOpd x).ev ts) = some (sz, es)) (hl : bytesOf es = some l) (hm : MR O F w B mem) (ht : TR F w B ts a) : Goes P O F w B o a (.ret (.v (.string ⟨l.toArray⟩))) mem := by
  obtain ⟨base, cap, ex, hs, hr⟩ := elems_ok hx hm (opd_ok ht x)
  refine .pure (x := .string ⟨l.toArray⟩) ?_ hm (.v _)
  have hrun : (Conv.bytesToString (.slice base es.length cap)).run P w = .ok (.string ⟨l.toArray⟩) w := by
    by_cases hne : es = []
    · subst hne
      simp [bytesOf] at hl
      subst hl
      cases base with
      | none => simp [Conv.bytesToString]; rfl
      | some ad =>
        have := run_bytesToString (P := P) w ad 0 cap [] (by simp [loadCells, loadCellsFrom])
        simp at this ⊢; exact this
    · obtain ⟨b, p, xs, rfl, hc, hcell⟩ := hr hne
      rw [cellsAll_one hl] at hc
      obtain ⟨ns, rfl, rfl⟩ := bytes_cells hl hc
      have hlen : (ns.map (Value.int .u8)).length = es.length := by rw [hc.length]
      have hload := run_loadCells_list (P := P) w ⟨b, p, none⟩ (ns.map (Value.int .u8)) (fun j y hj => by rw [add_plain]; exact hcell j y hj)
      rw [hlen] at hload
      rw [run_bytesToString (P := P) w ⟨b, p, none⟩ es.length cap ns hload, foldl_push]
      simp
  simp only [execOp, ho, ex, Sem.run_bind, run_convert_bytes_string w s d e base _ _ h1 h3 h2, hrun, Result.andThen_ok, Sem.run_pure]

/-! ### What makes memory -/
theorem zero_run {t : TypeId} {z : List Value} (h : zeroOf P t = some z) : ∃ v, (zeroValue t).run P w = .ok v w ∧ v.cells.toList = z := by
  unfold zeroOf at h
  cases hi : P.info? t with
  | none => simp [hi] at h
  | some i =>
    cases hz : i.zero with
    | none => simp [hi, hz] at h
    | some v =>
      simp [hi, hz] at h
      exact ⟨v, by simp [zeroValue, typeInfo, hi, hz], h⟩

theorem CR.lits (z : List Value) : CR F w B (z.map AV.v) z := by
  induction z with
  | nil => exact .nil
  | cons x z ih => exact .cons (.v x) ih

theorem alloc_old (w : World) (ob : Obj) (k : Nat) (hk : k < w.heap.size) : (w.alloc ob).heap[k]? = w.heap[k]? := by
  show (w.heap.push ob)[k]? = _
  rw [Array.getElem?_push, if_neg (by omega)]
theorem alloc_new (w : World) (ob : Obj) : (w.alloc ob).heap[w.heap.size]? = some ob := by
  show (w.heap.push ob)[w.heap.size]? = _
  rw [Array.getElem?_push, if_pos rfl]

theorem ev_alloc (hO : ∀ b, w.heap.size ≤ b → O b) (ob : Obj) : Ev O w (w.alloc ob) :=
  ⟨rfl, rfl, rfl, by simp, fun k hk _ => alloc_old w ob k hk⟩

/-- A new variable. -/
theorem new_var (hm : MR O F w B mem) (hO : ∀ b, w.heap.size ≤ b → O b) {cs : List AV} {xs : List Value} (t : TypeId) (hc : CR F w B cs xs) :
    MR O F (w.alloc (.cells xs.toArray t)) (B ++ [.var w.heap.size]) (mem ++ [.var cs]) ∧ Ext F F w (w.alloc (.cells xs.toArray t)) B (B ++ [.var w.heap.size]) ∧ Ev O w (w.alloc (.cells xs.toArray t)) ∧
      VR F (w.alloc (.cells xs.toArray t)) (B ++ [.var w.heap.size]) (.ptr mem.length 0 0) (.pointer (some ⟨w.heap.size, 0, none⟩)) := by
  have e : Ext F F w (w.alloc (.cells xs.toArray t)) B (B ++ [.var w.heap.size]) :=
    ⟨fun _ h => h, (ext_append F w B _).pl, fun b hb => alloc_old w _ b (hm.fr b hb)⟩
  refine ⟨hm.push (by simp) (fun b hb => alloc_old w _ b (hm.old hb)) ⟨t, xs, alloc_new w _, hc.mono e⟩ (fun _ b hb => by cases hb; exact ⟨(hm.fresh (Nat.le_refl _)).1, (hm.fresh (Nat.le_refl _)).2, by simp, hO _ (Nat.le_refl _)⟩), e, ev_alloc hO _, ?_⟩
  exact .ptrV (by rw [← hm.len]; simp)

theorem go_alloc (t : TypeId) (z : List Value) (ho : o.op = .alloc t) (hz : zeroOf P t = some z) (hO : ∀ b, w.heap.size ≤ b → O b) (hm : MR O F w B mem) :
    Goes P O F w B o a (.ret (.ptr mem.length 0 0)) (mem ++ [.var (z.map .v)]) := by
  obtain ⟨v, hv, hvz⟩ := zero_run (P := P) (w := w) hz
  obtain ⟨h1, h2, h3, h4⟩ := new_var hm hO t (CR.lits (F := F) (w := w) (B := B) z)
  refine .value (x := .pointer (some ⟨w.heap.size, 0, none⟩)) (w' := w.alloc (.cells z.toArray t)) ?_ h1 h2 h3 (fun _ h => .inl h) h4
  simp only [execOp, ho, Instr.alloc, Sem.run_bind, hv, Result.andThen_ok, newVar, newRow, run_newObj, Sem.run_pure, World.alloc_eq, ← hvz]

theorem go_box (t : TypeId) (x : Operand) (ho : o.op = .box t x) (hs : ((compOpd x).ev ts).shaped = true) (hO : ∀ b, w.heap.size ≤ b → O b) (hm : MR O F w B mem) (ht : TR F w B ts a) :
    Goes P O F w B o a (.ret (.ptr mem.length 0 0)) (mem ++ [.var ((compOpd x).ev ts).cells]) := by
  obtain ⟨hc, _⟩ := (opd_ok ht x).shaped hs
  obtain ⟨h1, h2, h3, h4⟩ := new_var hm hO t hc
  refine .value (x := .pointer (some ⟨w.heap.size, 0, none⟩)) (w' := w.alloc (.cells (a.eval x).cells.toList.toArray t)) ?_ h1 h2 h3 (fun _ h => .inl h) h4
  simp only [execOp, ho, Instr.box, Sem.run_bind, Result.andThen_ok, newVar, newRow, run_newObj, Sem.run_pure, World.alloc_eq]

end
end Go.Proofs.YtjmgnodeohmboaaDoor.Am
