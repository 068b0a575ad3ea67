/-
  THE ABSTRACT MACHINE, TENTH PART: what is built; and all operations in one word. No program is named here.
-/
import Derived.Test.YtjmgnodeohmboaaDoorAm8
namespace Go.Proofs.YtjmgnodeohmboaaDoor.Am
set_option linter.unusedSimpArgs false
set_option linter.unusedVariables false
open Go
section
variable {P : Program} {O F F' : Nat → Prop} {w w' : World} {B B' : List Loc} {ts : Nat → AV} {mem mem' : List Blk} {a : Act} {o : Oper}

theorem foldl_set (off : Nat) : ∀ (vs : List Value) (k : Nat) (cells : Array Value), off + k + vs.length ≤ cells.size →
    ((vs.zipIdx k).foldl (fun (cs : Array Value) (p : Value × Nat) => cs.setIfInBounds (off + p.2) p.1) cells).toList = spliceV cells.toList (off + k) vs
  | [], k, cells, _ => by simp [spliceV]
  | v :: vs, k, cells, h => by
    simp only [List.length_cons] at h
    simp only [List.zipIdx_cons, List.foldl_cons]
    rw [foldl_set off vs (k + 1) _ (by simp; omega)]
    simp only [spliceV, Array.toList_setIfInBounds, List.length_cons]
    apply List.ext_getElem?
    intro j
    simp only [List.getElem?_append, List.getElem?_take, List.getElem?_drop, List.length_append, List.length_take, List.length_set, Array.length_toList, List.getElem?_set, List.length_cons]
    have e1 : min (off + (k + 1)) cells.size = off + k + 1 := by omega
    have e2 : min (off + k) cells.size = off + k := by omega
    simp only [e1, e2]
    by_cases c1 : j < off + k
    · simp [c1, show j < off + k + 1 by omega, show j < off + (k + 1) by omega, show ¬ off + k = j by omega, show j < off + k + 1 + vs.length by omega, show j < off + k + (vs.length + 1) by omega]
    · by_cases c2 : j = off + k
      · subst c2
        simp [show off + k < cells.size by omega, show off + k < off + (k + 1) by omega]
        omega
      · by_cases c3 : j < off + k + 1 + vs.length
        · simp [c1, c3, show j < off + k + (vs.length + 1) by omega, show ¬ j < off + k + 1 by omega]
          rw [show j - (off + k) = (j - (off + k + 1)) + 1 by omega, List.getElem?_cons_succ]
        · simp only [c1, c3, show ¬ j < off + k + (vs.length + 1) by omega, show ¬ j < off + k + 1 by omega, if_false]
          rw [if_neg (by omega)]
          congr 1
          omega

theorem fill_step {place : Nat → Option (Nat × Nat)} {i off n : Nat} {v : Value} {cells : Array Value} {rest : List (Nat × Value)} (hp : place i = some (off, n)) (hn : v.cells.size = n) (hl : off + n ≤ cells.size) :
    ∃ cells' : Array Value, Instr.fill place cells ((i, v) :: rest) = Instr.fill place cells' rest ∧ cells'.toList = spliceV cells.toList off v.cells.toList := by
  refine ⟨_, by simp only [Instr.fill, hp, hn]; rw [if_neg (by simp; omega)], ?_⟩
  have := foldl_set off v.cells.toList 0 cells (by simp; omega)
  simp only [Nat.add_zero] at this
  rw [← this, ← Array.foldl_toList]
  simp

theorem fill_ok {place : Nat → Option (Nat × Nat)} : ∀ (parts : List (Nat × Operand)) (ps : List (Nat × Nat × AOpd)) (cs cs' : List AV) (cells : Array Value),
    (parts.length = ps.length ∧ ∀ (j i : Nat) (x : Operand) (off n : Nat) (y : AOpd), parts[j]? = some (i, x) → ps[j]? = some (off, n, y) → place i = some (off, n) ∧ y = compOpd x) → TR F w B ts a → CR F w B cs cells.toList →
    fillA cs (ps.map fun p => (p.1, p.2.1, p.2.2.ev ts)) = some cs' → ∃ cells' : Array Value, Instr.fill place cells (parts.map fun p => (p.1, a.eval p.2)) = some cells' ∧ CR F w B cs' cells'.toList
  | [], ps, cs, cs', cells, hp, ht, hc, hf => by
    have : ps = [] := List.eq_nil_of_length_eq_zero hp.1.symm
    subst this
    simp [fillA] at hf; subst hf
    exact ⟨cells, rfl, hc⟩
  | (i, x) :: parts, ps, cs, cs', cells, hp, ht, hc, hf => by
    cases ps with
    | nil => simp at hp
    | cons p ps =>
      obtain ⟨off, n, y⟩ := p
      obtain ⟨h1, h2⟩ := hp.2 0 i x off n y rfl rfl
      subst h2
      simp only [List.map_cons, fillA] at hf
      split at hf
      · rename_i hcond
        obtain ⟨hs, hl, hle⟩ := hcond
        obtain ⟨hcx, _⟩ := (opd_ok ht x).shaped hs
        have hsz : (a.eval x).cells.size = n := by rw [← Array.length_toList, hcx.length, hl]
        have hcl : cells.size = cs.length := by rw [← Array.length_toList, hc.length]
        obtain ⟨cells1, e1, e2⟩ := fill_step (cells := cells) (rest := parts.map fun p => (p.1, a.eval p.2)) h1 hsz (by omega)
        have hc1 : CR F w B (splice cs off ((compOpd x).ev ts).cells) cells1.toList := by rw [e2]; exact hc.splice hcx off
        obtain ⟨cells2, e3, e4⟩ := fill_ok parts ps _ cs' cells1 ⟨by simpa using hp.1, fun j i' x' off' n' y' hj1 hj2 => hp.2 (j + 1) i' x' off' n' y' (by simpa using hj1) (by simpa using hj2)⟩ ht hc1 hf
        exact ⟨cells2, by simp only [List.map_cons]; rw [e1, e3], e4⟩
      · cases hf

theorem partsS_ok {fs : Array Field} : ∀ (parts : List (Nat × Operand)) (ps : List (Nat × Nat × AOpd)), partsS P fs parts = some ps →
    parts.length = ps.length ∧ ∀ (j i : Nat) (x : Operand) (off n : Nat) (y : AOpd), parts[j]? = some (i, x) → ps[j]? = some (off, n, y) → (∃ f : Field, fs[i]? = some f ∧ f.offset = off ∧ szOf P f.type = some n) ∧ y = compOpd x
  | [], ps, h => by simp [partsS] at h; subst h; exact ⟨rfl, fun j i x off n y h => by simp at h⟩
  | (i, x) :: parts, ps, h => by
    unfold partsS at h
    split at h
    · rename_i f q hf hq
      cases hs : szOf P f.type with
      | none => simp [hs] at h
      | some n =>
        simp [hs] at h; subst h
        obtain ⟨h1, h2⟩ := partsS_ok parts q hq
        refine ⟨by simp [h1], fun j i' x' off n' y hj1 hj2 => ?_⟩
        cases j with
        | zero => simp at hj1 hj2; obtain ⟨rfl, rfl⟩ := hj1; obtain ⟨rfl, rfl, rfl⟩ := hj2; exact ⟨⟨f, hf, rfl, hs⟩, rfl⟩
        | succ j => exact h2 j i' x' off n' y (by simpa using hj1) (by simpa using hj2)
    · cases h

theorem places_run {fs : Array Field} (h : fs.all (fun (f : Field) => (szOf P f.type).isSome) = true) :
    ∃ pl : Array (Nat × Nat), (fs.mapM (fun (f : Field) => do pure (f.offset, ← sizeOf f.type)) : Sem (Array (Nat × Nat))).run P w = .ok pl w ∧ ∀ (i : Nat) (f : Field) (n : Nat), fs[i]? = some f → szOf P f.type = some n → pl[i]? = some (f.offset, n) := by
  obtain ⟨l⟩ := fs
  have hl : ∀ f ∈ l, (szOf P f.type).isSome = true := by simpa using h
  have key : ∀ l : List Field, (∀ f ∈ l, (szOf P f.type).isSome = true) →
      ∃ pl : List (Nat × Nat), (l.mapM (fun (f : Field) => do pure (f.offset, ← sizeOf f.type)) : Sem (List (Nat × Nat))).run P w = .ok pl w ∧ ∀ (i : Nat) (f : Field) (n : Nat), l[i]? = some f → szOf P f.type = some n → pl[i]? = some (f.offset, n) := by
    intro l
    induction l with
    | nil => intro _; exact ⟨[], by simp, fun i f n h => by simp at h⟩
    | cons f l ih =>
      intro hl
      obtain ⟨pl, r, hpl⟩ := ih (fun f hf => hl f (by simp [hf]))
      obtain ⟨n, hn⟩ := Option.isSome_iff_exists.1 (hl f (by simp))
      refine ⟨(f.offset, n) :: pl, by simp only [List.mapM_cons, Sem.run_bind, run_size hn, Result.andThen_ok, Sem.run_pure, r], fun i f' n' hi hn' => ?_⟩
      cases i with
      | zero => simp at hi; subst hi; rw [hn] at hn'; cases hn'; rfl
      | succ i => simp at hi; simpa using hpl i f' n' hi hn'
  obtain ⟨pl, r, hpl⟩ := key l hl
  refine ⟨pl.toArray, ?_, fun i f n hi hn => by simpa using hpl i f n (by simpa using hi) hn⟩
  rw [List.mapM_toArray]
  simp only [Sem.run_map, r, Result.andThen_ok]

theorem go_bldS (t : TypeId) (parts : Array (Nat × Operand)) (z : List Value) (fs : Array Field) (ps : List (Nat × Nat × AOpd)) (cs : List AV) (ho : o.op = .build t parts) (hz : zeroOf P t = some z) (hu : P.underlying t = some (.struct fs))
    (hall : fs.all (fun (f : Field) => (szOf P f.type).isSome) = true) (hp : partsS P fs parts.toList = some ps) (hf : fillA (z.map .v) (ps.map fun p => (p.1, p.2.1, p.2.2.ev ts)) = some cs)
    (hm : MR O F w B mem) (ht : TR F w B ts a) : Goes P O F w B o a (.ret (.agg cs)) mem := by
  obtain ⟨v, hv, hvz⟩ := zero_run (P := P) (w := w) hz
  obtain ⟨pl, hpl, hplat⟩ := places_run (P := P) (w := w) hall
  obtain ⟨h1, h2⟩ := partsS_ok _ _ hp
  obtain ⟨cells', e1, e2⟩ := fill_ok (a := a) (place := (pl[·]?)) parts.toList ps (z.map .v) cs v.cells
    ⟨h1, fun j i x off n y hj1 hj2 => by obtain ⟨⟨f, g1, g2, g3⟩, g4⟩ := h2 j i x off n y hj1 hj2; subst g2; exact ⟨hplat i f n g1 g3, g4⟩⟩ ht (by rw [hvz]; exact CR.lits z) hf
  refine .pure (x := .agg cells') ?_ hm (by simpa using VR.agg e2)
  have hmap : (parts.map fun p => (p.1, a.eval p.2)).toList = parts.toList.map fun p => (p.1, a.eval p.2) := by simp
  simp only [execOp, ho, Instr.build, Sem.run_bind, hv, Result.andThen_ok, run_under hu, hpl]
  have e1' : Instr.fill (fun x => pl[x]?) v.cells (Array.map (fun x => (x.1, a.eval x.2)) parts).toList = some cells' := by rw [hmap]; exact e1
  simp only [e1', Sem.run_pure, Result.andThen_ok]

theorem go_bldA (t e : TypeId) (len : Nat) (parts : Array (Nat × Operand)) (z : List Value) (n : Nat) (cs : List AV) (ho : o.op = .build t parts) (hz : zeroOf P t = some z) (hu : P.underlying t = some (.array len e)) (hn : szOf P e = some n)
    (hf : fillA (z.map .v) ((parts.toList.map fun (i, x) => (i * n, n, compOpd x)).map fun p => (p.1, p.2.1, p.2.2.ev ts)) = some cs)
    (hm : MR O F w B mem) (ht : TR F w B ts a) : Goes P O F w B o a (.ret (.agg cs)) mem := by
  obtain ⟨v, hv, hvz⟩ := zero_run (P := P) (w := w) hz
  obtain ⟨cells', e1, e2⟩ := fill_ok (a := a) (place := fun i => some (i * n, n)) parts.toList (parts.toList.map fun (i, x) => (i * n, n, compOpd x)) (z.map .v) cs v.cells
    ⟨by simp, fun j i x off n' y hj1 hj2 => by simp [hj1] at hj2; obtain ⟨rfl, rfl, rfl⟩ := hj2; exact ⟨rfl, rfl⟩⟩ ht (by rw [hvz]; exact CR.lits z) hf
  refine .pure (x := .agg cells') ?_ hm (by simpa using VR.agg e2)
  have hmap : (parts.map fun p => (p.1, a.eval p.2)).toList = parts.toList.map fun p => (p.1, a.eval p.2) := by simp
  simp only [execOp, ho, Instr.build, Sem.run_bind, hv, Result.andThen_ok, run_under hu, run_size hn]
  have e1' : Instr.fill (fun i => some (i * n, n)) v.cells (Array.map (fun x => (x.1, a.eval x.2)) parts).toList = some cells' := by rw [hmap]; exact e1
  simp only [e1', Sem.run_pure, Result.andThen_ok]

/-- A slice of so many parts, given one by one. -/
theorem fill_row {sz : Nat} : ∀ (vs : List Value) (k : Nat) (cells : Array Value), (∀ v ∈ vs, v.cells.size = sz) → (k + vs.length) * sz = cells.size →
    ∃ cells' : Array Value, Instr.fill (fun i => some (i * sz, sz)) cells ((List.range' k vs.length).zip vs) = some cells' ∧ cells'.toList = cells.toList.take (k * sz) ++ vs.flatMap fun v => v.cells.toList
  | [], k, cells, _, hl => ⟨cells, rfl, by simp at hl; simp; rw [List.take_of_length_le (by simp; omega)]⟩
  | v :: vs, k, cells, hs, hl => by
    have hv := hs v (by simp)
    simp only [List.length_cons] at hl
    have hmul : (k + (vs.length + 1)) * sz = k * sz + sz + vs.length * sz := by rw [Nat.add_mul, Nat.add_mul]; omega
    obtain ⟨c1, e1, e2⟩ := fill_step (place := fun i => some (i * sz, sz)) (i := k) (cells := cells) (rest := (List.range' (k + 1) vs.length).zip vs) rfl hv (by omega)
    have hc1 : c1.size = cells.size := by
      rw [← Array.length_toList, e2]; simp [spliceV, hv]; omega
    obtain ⟨c2, e3, e4⟩ := fill_row vs (k + 1) c1 (fun v hv => hs v (by simp [hv])) (by rw [hc1, ← hl]; congr 1; omega)
    refine ⟨c2, ?_, ?_⟩
    · simp only [List.length_cons, List.range'_succ, List.zip_cons_cons]
      rw [e1, e3]
    · rw [e4, e2]
      simp only [spliceV, List.flatMap_cons, Array.length_toList, hv]
      rw [← List.append_assoc]
      congr 1
      rw [show (k + 1) * sz = k * sz + sz by rw [Nat.add_mul]; omega]
      refine List.take_left' ?_
      simp [hv]; omega

theorem go_bsl (t e : TypeId) (len n : Nat) (parts : Array (Nat × Operand)) (z : List Value) (ho : o.op = .buildSlice t len parts) (he : P.underlying t = some (.slice e)) (hn : szOf P e = some n) (hz : zeroOf P e = some z)
    (h0 : n ≠ 0) (hzl : z.length = n) (hidx : parts.toList.map (·.1) = List.range len) (hle : len * n ≤ 16777216)
    (hs : ∀ x ∈ parts.toList, ((compOpd x.2).ev ts).shaped = true ∧ ((compOpd x.2).ev ts).isBare = true ∧ ((compOpd x.2).ev ts).cells.length = n)
    (hO : ∀ b, w.heap.size ≤ b → O b) (hm : MR O F w B mem) (ht : TR F w B ts a) :
    Goes P O F w B o a (.ret (.osl mem.length)) (mem ++ [.arr e n (parts.toList.map fun p => (compOpd p.2).ev ts)]) := by
  have hlen : parts.toList.length = len := by have := congrArg List.length hidx; simpa using this
  have hcells : ∀ (l : List (Nat × Operand)), (∀ x ∈ l, ((compOpd x.2).ev ts).shaped = true ∧ ((compOpd x.2).ev ts).isBare = true ∧ ((compOpd x.2).ev ts).cells.length = n) →
      CR F w [] (AV.cellsAll (l.map fun p => (compOpd p.2).ev ts)) ((l.map fun p => a.eval p.2).flatMap fun v => v.cells.toList) ∧ ∀ v ∈ l.map (fun p => a.eval p.2), v.cells.size = n := by
    intro l
    induction l with
    | nil => intro _; exact ⟨.nil, by simp⟩
    | cons p l ih =>
      intro hs
      obtain ⟨h1, h2, h3⟩ := hs p (by simp)
      obtain ⟨g1, g2⟩ := ih (fun x hx => hs x (by simp [hx]))
      have hv := (opd_ok ht p.2).toBare h2
      obtain ⟨hc, _⟩ := hv.shaped h1
      refine ⟨hc.append g1, fun v hv => ?_⟩
      simp only [List.map_cons, List.mem_cons] at hv
      rcases hv with rfl | hv
      · rw [← Array.length_toList, hc.length, h3]
      · exact g2 v hv
  obtain ⟨hcr, hvs⟩ := hcells parts.toList hs
  obtain ⟨zv, hzv, hzc⟩ := zero_run (P := P) (w := w) hz
  have hzip : parts.toList.map (fun p => (p.1, a.eval p.2)) = (List.range' 0 (parts.toList.map fun p => a.eval p.2).length).zip (parts.toList.map fun p => a.eval p.2) := by
    rw [List.length_map, hlen, ← List.range_eq_range', ← hidx]
    generalize parts.toList = l
    induction l with
    | nil => rfl
    | cons p l ih => simp [ih]
  obtain ⟨cells', e1, e2⟩ := fill_row (sz := n) (parts.toList.map fun p => a.eval p.2) 0 ((Array.range (len * n)).map (fun i => zv.cells[i % zv.cells.size]!)) hvs (by simp [hlen])
  rw [← hzip] at e1
  simp only [Nat.zero_mul, List.take_zero, List.nil_append] at e2
  have hsize : cells'.size = len * n := by
    rw [← Array.length_toList, e2, hcr.length, AV.cellsAll_length (sz := n) (by intro x hx; simp only [List.mem_map] at hx; obtain ⟨p, hp, rfl⟩ := hx; exact (hs p hp).2.2)]
    simp [hlen]
  have hrun : (execOp a.eval o).run P w = .ok (.value (.slice (some ⟨w.heap.size, 0, none⟩) len len)) (w.alloc (.cells cells' e)) := by
    have hmap : (parts.map fun p => (p.1, a.eval p.2)).toList = parts.toList.map fun p => (p.1, a.eval p.2) := by simp
    simp only [execOp, ho, Instr.buildSlice, Sem.run_bind, run_under he, Result.andThen_ok, run_size hn]
    rw [if_neg (by omega)]
    by_cases hl0 : len * n = 0
    · have hl : len = 0 := by rcases Nat.mul_eq_zero.1 hl0 with h | h; exact h; exact absurd h h0
      subst hl
      have hpl : parts.toList = [] := List.eq_nil_of_length_eq_zero hlen
      have hpa : parts = #[] := by apply Array.toList_inj.1; simpa using hpl
      subst hpa
      have : cells' = #[] := by apply Array.eq_empty_of_size_eq_zero; simpa using hsize
      subst this
      simp [Instr.fill, newRow, show Array.range 0 = #[] from rfl]
    · rw [if_neg hl0]
      simp only [Sem.run_bind, hzv, Result.andThen_ok, Sem.run_pure]
      have e1' : Instr.fill (fun i => some (i * n, n)) ((Array.range (len * n)).map (fun i => zv.cells[i % zv.cells.size]!)) (Array.map (fun x => (x.1, a.eval x.2)) parts).toList = some cells' := by rw [hmap]; exact e1
      simp only [e1', newRow, Sem.run_bind, run_newObj, Result.andThen_ok, Sem.run_pure, World.alloc_eq]
  have hrow : (w.alloc (.cells cells' e)).ownsRow 0 e n (.slice (some ⟨w.heap.size, 0, none⟩) len len) (0 + len) ([] ++ (parts.toList.map fun p => a.eval p.2).flatMap fun v => v.cells.toList) := by
    rw [Nat.zero_add, List.nil_append, ← e2]
    refine ⟨by simpa using hsize, .inr ⟨w.heap.size, len, cells', rfl, Nat.zero_le _, alloc_new w _, Nat.le_refl _, ?_, hsize, ?_⟩⟩
    · have : len ≤ len * n := Nat.le_mul_of_pos_right len (Nat.pos_of_ne_zero h0)
      simp only [maxLen]; omega
    · rw [List.take_of_length_le (by simp [hsize])]
  obtain ⟨l, m1, m2, m3, m4⟩ := own_append (O := O) (mem := mem) (row := none) (es := []) (es2 := parts.toList.map fun p => (compOpd p.2).ev ts) hm hO (Nat.pos_of_ne_zero h0) hrow (World.grownBy_alloc w _ none) rfl (by simp [hlen]) .nil hcr
    (fun e he => by simp only [List.nil_append, List.mem_map] at he; obtain ⟨p, hp, rfl⟩ := he; exact (hs p hp).2.2) (fun b hb => by cases hb) (fun b hb => by cases hb; exact .inr (Nat.le_refl _))
  exact .value hrun m1 m2 m3 (fun _ h => .inl h) m4

end
end Go.Proofs.YtjmgnodeohmboaaDoor.Am
