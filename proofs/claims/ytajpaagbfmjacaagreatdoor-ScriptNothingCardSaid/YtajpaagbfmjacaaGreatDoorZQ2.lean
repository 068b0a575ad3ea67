/-
  THE ABSTRACT MACHINE: parts of slices of the call's own: cut, copied, cleared, made longer; slices and pointers against nil. No program is named here.
-/
import Derived.Test.YtajpaagbfmjacaaGreatDoorZQ1
import Derived.MapKept
import Derived.Laws.OwnMore
import Derived.Lib.ConvBytes
import Derived.Lib.Builder
import Derived.Lib.UnsafeStr
namespace Go.Proofs.YtajpaagbfmjacaaGreatDoor.Am
set_option linter.unusedSimpArgs false
set_option linter.unusedVariables false
open Go
section
variable {P : Program} {O F F' : Nat → Prop} {w w' : World} {B B' : List Loc} {ts : Nat → AV} {mem mem' : List Blk} {a : Act} {o : Oper}

/-- What a part is. -/
theorem win_inv {id off n t sz : Nat} {es : List AV} {y : Value} (hi : mem[id]? = some (.buf t sz es)) (hm : MR O F w B mem) (hv : VR F w B (.win id off n) y) :
    ∃ g p N xs, y = .slice (some ⟨g, p, none⟩) n (es.length - off) ∧ off + n ≤ es.length ∧ (off < es.length ∨ off = 0 → p = off * sz) ∧ 0 < sz ∧ es.length ≤ maxLen ∧ (∀ e ∈ es, e.cells.length = sz) ∧
      w.heap[g]? = some (.cells xs.toArray t (0, 0)) ∧ CR F w [] (AV.cellsAll es) xs ∧ xs.length = es.length * sz ∧ B[id]? = some (.arr sz (some g) N es.length) := by
  cases hv with
  | @win _ _ sz' _ N cap _ p g h hc hp =>
    have hbr := hm.br id _ _ hi h
    obtain ⟨h1, h2, h3, h4, h5, b, xs, h6, h7, h8⟩ := hbr
    subst h1; subst h3
    cases h6
    exact ⟨g, p, N, xs, rfl, hc, hp, h2, h4, h5, h7, h8, by rw [h8.length, AV.cellsAll_length h5], h⟩

theorem cell_of {g t k : Nat} {xs : List Value} (h : w.heap[g]? = some (.cells xs.toArray t (0, 0))) : w.cell? ⟨g, k, none⟩ = xs[k]? := by
  simp [World.cell?, h]

/-- What a slice of any kind has, as it lies. -/
theorem elemsW_ok {x : AV} {y : Value} {sz : Nat} {es : List AV} (h : elemsW mem x = some (sz, es)) (hm : MR O F w B mem) (hv : VR F w B x y) :
    ∃ base cap, y = .slice base es.length cap ∧ (∀ e ∈ es, e.cells.length = sz) ∧ (es ≠ [] → ∃ b p xs, base = some ⟨b, p, none⟩ ∧ CR F w [] (AV.cellsAll es) xs ∧ ∀ j z, xs[j]? = some z → w.cell? ⟨b, p + j, none⟩ = some z) := by
  unfold elemsW at h
  split at h
  · rename_i id off n
    split at h
    · rename_i t sz' es' hi
      cases h
      obtain ⟨g, p, N, xs, rfl, h1, h2, h3, h4, h5, h6, h7, h8, h9⟩ := win_inv hi hm hv
      have hl : ((es'.drop off).take n).length = n := by simp; omega
      refine ⟨some ⟨g, p, none⟩, _, by rw [hl], fun e he => h5 e (List.mem_of_mem_drop (List.mem_of_mem_take he)), fun hne => ?_⟩
      have hn0 : n ≠ 0 := by
        intro h0; subst h0; simp at hne
      have hp := h2 (.inl (by omega))
      refine ⟨g, p, (xs.drop (off * sz)).take (n * sz), rfl, ?_, fun j z hj => ?_⟩
      · rw [cellsAll_take _ _ (fun e he => h5 e (List.mem_of_mem_drop he)), cellsAll_drop _ _ h5]
        exact (h7.drop _).take _
      · rw [cell_of h6, hp]
        rw [List.getElem?_take] at hj
        split at hj
        · rwa [List.getElem?_drop] at hj
        · cases hj
    · cases h
  · exact elems_ok h hm hv

/-- The first elements of a slice of any kind. -/
theorem src_take {x : AV} {y : Value} {sz2 sz : Nat} {es2 : List AV} (k : Nat) (h : elemsW mem x = some (sz2, es2)) (hm : MR O F w B mem) (hv : VR F w B x y) (hs : sz2 = sz ∨ es2 = []) (hk : k ≤ es2.length) (hsh : (es2.take k).all AV.shaped = true) :
    ∃ news, Builtin.lenOf y = pure es2.length ∧ (∀ w1 : World, w1.heap = w.heap → (Builtin.firstCells sz k y).run P w1 = .ok news.toArray w1) ∧ news.length = k * sz ∧ (∀ u ∈ news, u.oneCell' = true) ∧
      CR F w [] (AV.cellsAll (es2.take k)) news ∧ ∀ e ∈ es2.take k, e.cells.length = sz := by
  obtain ⟨base, cap, rfl, hsz, hr⟩ := elemsW_ok h hm hv
  by_cases hne : es2 = []
  · subst hne
    have : k = 0 := by simpa using hk
    subst this
    refine ⟨[], rfl, fun w1 _ => ?_, by simp, by simp, by simpa using .nil, by simp⟩
    cases base <;> simp [Builtin.firstCells, loadCells, loadCellsFrom]
  · have hs' : sz2 = sz := hs.resolve_right hne
    subst hs'
    obtain ⟨b, p, ys, rfl, hc, hcell⟩ := hr hne
    have hl : ys.length = es2.length * sz2 := by rw [hc.length, AV.cellsAll_length hsz]
    have hck : CR F w [] (AV.cellsAll (es2.take k)) (ys.take (k * sz2)) := by
      rw [cellsAll_take _ _ hsz]; exact hc.take _
    have hkl : (ys.take (k * sz2)).length = k * sz2 := by
      rw [List.length_take, hl]
      exact Nat.min_eq_left (Nat.mul_le_mul_right _ hk)
    refine ⟨ys.take (k * sz2), rfl, fun w1 hw1 => run_firstCells_some (P := P) w1 sz2 k ⟨b, p, none⟩ es2.length cap _ hkl (fun j u hj => ?_), hkl, hck.onesAll hsh, hck, fun e he => hsz e (List.mem_of_mem_take he)⟩
    rw [add_plain]
    rw [List.getElem?_take] at hj
    split at hj
    · have := hcell j u hj
      simpa [World.cell?, hw1] using this
    · cases hj

theorem take_drop_set {es : List AV} {q : Nat} {ns : List AV} {sz : Nat} (hs : ∀ e ∈ es, e.cells.length = sz) (hn : ∀ e ∈ ns, e.cells.length = sz) :
    AV.cellsAll (es.take q ++ ns ++ es.drop (q + ns.length)) = (AV.cellsAll es).take (q * sz) ++ AV.cellsAll ns ++ (AV.cellsAll es).drop (q * sz + (AV.cellsAll ns).length) := by
  rw [AV.cellsAll_append, AV.cellsAll_append, cellsAll_take _ _ hs, cellsAll_drop _ _ hs, AV.cellsAll_length hn, Nat.add_mul]

/-- Some elements are written. -/
theorem win_write {id t sz g N q : Nat} {es ns : List AV} {xs ys : List Value} (hi : mem[id]? = some (.buf t sz es)) (hl : B[id]? = some (.arr sz (some g) N es.length)) (hm : MR O F w B mem) (hsz : 0 < sz) (hmx : es.length ≤ maxLen)
    (h5 : ∀ e ∈ es, e.cells.length = sz) (h6 : w.heap[g]? = some (.cells xs.toArray t (0, 0))) (h7 : CR F w [] (AV.cellsAll es) xs) (hn : ∀ e ∈ ns, e.cells.length = sz) (hc : CR F w [] (AV.cellsAll ns) ys) (h1 : ∀ u ∈ ys, u.oneCell' = true)
    (hq : q + ns.length ≤ es.length) :
    ∃ w', (storeCells ⟨g, q * sz, none⟩ ys).run P w = .ok () w' ∧ MR O F w' B (mem.set id (.buf t sz (es.take q ++ ns ++ es.drop (q + ns.length)))) ∧ Ext F F w w' B B ∧ Ev O w w' := by
  have hyl : ys.length = ns.length * sz := by rw [hc.length, AV.cellsAll_length hn]
  have hxl : xs.length = es.length * sz := by rw [h7.length, AV.cellsAll_length h5]
  have hfit : q * sz + ys.length ≤ xs.length := by rw [hyl, hxl, ← Nat.add_mul]; exact Nat.mul_le_mul_right _ hq
  have hrun := run_storeCells_at P g (q * sz) t ys 0 xs.toArray w h6 (by simpa using hfit) h1
  simp only [Nat.add_zero] at hrun
  obtain ⟨m1, e1⟩ := hm.write (w' := w.setRow g (xs.take (q * sz) ++ ys ++ xs.drop (q * sz + ys.length)).toArray) (k := .buf t sz (es.take q ++ ns ++ es.drop (q + ns.length))) hi hl rfl rfl (by simp) (fun c hc => setRow_other w g c _ hc)
    (fun e => ⟨rfl, hsz, by simp; omega, hmx, fun e he => by
        simp only [List.mem_append] at he
        rcases he with (he | he) | he
        · exact h5 e (List.mem_of_mem_take he)
        · exact hn e he
        · exact h5 e (List.mem_of_mem_drop he), g, _, rfl, setRow_heap w g _ _ t _ h6, by
      rw [take_drop_set h5 hn, AV.cellsAll_length hn, ← hyl]
      exact CR.mono e.bare (((h7.take _).append hc).append (h7.drop _))⟩)
  exact ⟨_, hrun, m1, e1, ⟨rfl, rfl, rfl, by simp, fun c _ ho => setRow_other w g c _ (fun hcb => ho (hcb ▸ (hm.own id g (ownB_mk hi hl rfl rfl)).1))⟩⟩

theorem set_same {id : Nat} {b : Blk} (hi : mem[id]? = some b) : mem.set id b = mem := by
  apply List.ext_getElem?
  intro j
  by_cases h : id = j
  · subst h; rw [List.getElem?_set_self (List.getElem?_eq_some_iff.1 hi).1, hi]
  · rw [List.getElem?_set_ne h]

/-! ### The operations -/
theorem nilQ_ok {p q : Bool} {x : AV} {y : Value} (h : nilQ mem p x = some q) (hm : MR O F w B mem) (hv : VR F w B x y) :
    (p = false ∧ ∃ b n c, y = .slice b n c ∧ q = b.isNone) ∨ (p = true ∧ ∃ b, y = .pointer b ∧ q = b.isNone) := by
  unfold nilQ at h
  split at h
  · rename_i sz e es
    cases h
    obtain ⟨base, cap, rfl, _, hr⟩ := elems_ok (x := .fsl sz (e :: es)) rfl hm hv
    obtain ⟨b, p, xs, rfl, _⟩ := hr (by simp)
    exact .inl ⟨rfl, _, _, _, rfl, rfl⟩
  · rename_i id
    split at h
    · rename_i t sz e es hi
      cases h
      obtain ⟨base, cap, rfl, _, hr⟩ := elems_ok (x := .osl id) (sz := sz) (es := e :: es) (by simp [elems, hi]) hm hv
      obtain ⟨b, p, xs, rfl, _⟩ := hr (by simp)
      exact .inl ⟨rfl, _, _, _, rfl, rfl⟩
    · cases h
  · cases h; obtain ⟨b, p, rfl⟩ := VR.of_ptr hv; exact .inr ⟨rfl, _, rfl, rfl⟩
  · cases h; obtain ⟨b, p, rfl⟩ := VR.of_fptr hv; exact .inr ⟨rfl, _, rfl, rfl⟩
  · cases h; cases hv.of_v; exact .inl ⟨rfl, _, _, _, rfl, rfl⟩
  · cases h; cases hv.of_v; exact .inr ⟨rfl, _, rfl, rfl⟩
  · cases h

theorem equal_slice {t e : TypeId} (hu : P.underlying t = some (.slice e)) (b : Option Addr) (n c n' c' : Nat) : (Op.equal t (.slice b n c) (.slice none n' c')).run P w = .ok b.isNone w := by
  show (Op.equalIn (9999 + 1) t _ _).run P w = _
  unfold Op.equalIn
  cases b <;> simp [run_under hu]
theorem equal_pointer {t e : TypeId} (hu : P.underlying t = some (.pointer e)) (b : Option Addr) : (Op.equal t (.pointer b) (.pointer none)).run P w = .ok b.isNone w := by
  show (Op.equalIn (9999 + 1) t _ _).run P w = _
  unfold Op.equalIn
  cases b <;> simp [run_under hu]

theorem go_isn (p neg : Bool) (t : TypeId) (x y : Operand) (yt : TypeId) (op : BinOp) (q : Bool) (ho : o.op = .binOp op t x y yt) (hn : nilC P t op y = some (p, neg)) (hx : nilQ mem p ((compOpd x).ev ts) = some q) (hm : MR O F w B mem) (ht : TR F w B ts a) :
    Goes P O F w B o a (.ret (.v (.bool (neg != q)))) mem := by
  have hv := opd_ok ht x
  refine .pure (x := .bool (neg != q)) ?_ hm (.v _)
  have hq := nilQ_ok hx hm hv
  have fin : ∀ (v z : Value), a.eval x = v → a.eval y = z → (∀ cs, v ≠ .agg cs) → v ≠ .nilIface → (binOp op t v z).run P w = .ok (.bool (neg != q)) w → (execOp a.eval o).run P w = .ok (.value (.bool (neg != q))) w := by
    intro v z e1 e2 h1 h2 hr
    simp only [execOp, ho, e1, e2, Sem.run_bind, run_guard (P := P) (w := w) op t x y v z h1 h2, Result.andThen_ok, hr]; rfl
  unfold nilC at hn
  split at hn
  · rename_i e n c hu
    cases hn
    rcases hq with ⟨_, b, n', c', h1, rfl⟩ | ⟨h, _⟩
    · refine fin _ _ h1 rfl (fun _ h => by cases h) (fun h => by cases h) ?_
      have : binOp .eql t (.slice b n' c') (.slice none n c) = (do pure (.bool (← Op.equal t (.slice b n' c') (.slice none n c)))) := rfl
      show (binOp .eql t (.slice b n' c') (.slice none n c)).run P w = _
      rw [this, Sem.run_bind, equal_slice hu]; simp
    · cases h
  · rename_i e n c hu
    cases hn
    rcases hq with ⟨_, b, n', c', h1, rfl⟩ | ⟨h, _⟩
    · refine fin _ _ h1 rfl (fun _ h => by cases h) (fun h => by cases h) ?_
      have : binOp .neq t (.slice b n' c') (.slice none n c) = (do pure (.bool (!(← Op.equal t (.slice b n' c') (.slice none n c))))) := rfl
      show (binOp .neq t (.slice b n' c') (.slice none n c)).run P w = _
      rw [this, Sem.run_bind, equal_slice hu]; simp
    · cases h
  · rename_i e hu
    cases hn
    rcases hq with ⟨h, _⟩ | ⟨_, b, h1, rfl⟩
    · cases h
    · refine fin _ _ h1 rfl (fun _ h => by cases h) (fun h => by cases h) ?_
      have : binOp .eql t (.pointer b) (.pointer none) = (do pure (.bool (← Op.equal t (.pointer b) (.pointer none)))) := rfl
      show (binOp .eql t (.pointer b) (.pointer none)).run P w = _
      rw [this, Sem.run_bind, equal_pointer hu]; simp
  · rename_i e hu
    cases hn
    rcases hq with ⟨h, _⟩ | ⟨_, b, h1, rfl⟩
    · cases h
    · refine fin _ _ h1 rfl (fun _ h => by cases h) (fun h => by cases h) ?_
      have : binOp .neq t (.pointer b) (.pointer none) = (do pure (.bool (!(← Op.equal t (.pointer b) (.pointer none))))) := rfl
      show (binOp .neq t (.pointer b) (.pointer none)).run P w = _
      rw [this, Sem.run_bind, equal_pointer hu]; simp
  · cases hn

/-! ### Maps with texts as keys -/
section
open Go.MapKept
theorem beq_bytes (a b : ByteArray) : (a == b) = decide (a = b) := by
  rw [Bool.eq_iff_iff, bytes_beq, decide_eq_true_iff]

theorem isKey_s (s : ByteArray) : IsKey .string (.string s) := by simp [IsKey]

theorem find_ok (s : ByteArray) : ∀ (ents : List MapEntry) (es : List (ByteArray × AV)) (i : Nat), ents.map (·.key) = es.map (fun e => Value.string e.1) → CR F w B (es.map (·.2)) (ents.map (·.val)) →
    (getS es s = none ∧ Instr.findNow .string (.string s) ents i = some none ∧ ∀ v, putS es s v = es ++ [(s, v)]) ∨
    ∃ (j : Nat) (e : MapEntry) (a : AV), getS es s = some a ∧ Instr.findNow .string (.string s) ents i = some (some (i + j, e.val)) ∧ ents[j]? = some e ∧ e.key = .string s ∧ es[j]? = some (s, a) ∧ VR F w B a e.val ∧ ∀ v, putS es s v = es.set j (s, v)
  | [], [], i, _, _ => .inl ⟨rfl, rfl, fun _ => rfl⟩
  | [], _ :: _, _, h, _ => by simp at h
  | _ :: _, [], _, h, _ => by simp at h
  | x :: ents, (t, a) :: es, i, h, hc => by
    simp only [List.map_cons, List.cons.injEq] at h
    obtain ⟨hk, h⟩ := h
    simp only [List.map_cons] at hc
    cases hc with
    | cons hv hc =>
      have hsn : Instr.sameNow .string (.string s) x.key = some (s == t) := by rw [hk]; rfl
      by_cases hst : s = t
      · subst hst
        have hb : (s == s) = true := by rw [beq_bytes]; simp
        refine .inr ⟨0, x, a, by simp [getS, hb], by simp [Instr.findNow, hsn, hb], rfl, hk, rfl, hv, fun v => by simp [putS, hb]⟩
      · have hb : (s == t) = false := by rw [beq_bytes]; simp [hst]
        rcases find_ok s ents es (i + 1) h hc with ⟨h1, h2, h3⟩ | ⟨j, e, b, h1, h2, h3, h4, h5, h6, h7⟩
        · exact .inl ⟨by simp [getS, hb, h1], by simp [Instr.findNow, hsn, hb, h2], fun v => by simp [putS, hb, h3 v]⟩
        · exact .inr ⟨j + 1, e, b, by simp [getS, hb, h1], by simp [Instr.findNow, hsn, hb, h2]; omega, h3, h4, h5, h6, fun v => by simp [putS, hb, h7 v]⟩

/-- The map of this number. -/
theorem map_inv {id : Nat} {es : List (ByteArray × AV)} {y : Value} (hi : mem[id]? = some (.map es)) (hm : MR O F w B mem) (hv : VR F w B (.osl id) y) :
    ∃ b ents clock, y = .map (some b) ∧ B[id]? = some (.map b) ∧ w.heap[b]? = some (.map ents clock) ∧ ents.toList.map (·.key) = es.map (fun e => Value.string e.1) ∧ CR F w B (es.map (·.2)) (ents.toList.map (·.val)) := by
  have hlt := (List.getElem?_eq_some_iff.1 hi).1
  obtain ⟨l, hl⟩ : ∃ l, B[id]? = some l := ⟨_, List.getElem?_eq_getElem (by rw [hm.len]; exact hlt)⟩
  have hbr := hm.br id _ l hi hl
  match l, hbr, hl with
  | .map b, ⟨ents, clock, h1, h2, h3⟩, hl =>
    cases hv with
    | osl h => rw [hl] at h; cases h
    | omap h => rw [hl] at h; cases h; exact ⟨b, ents, clock, rfl, hl, h1, h2, h3⟩
    | oslW h => rw [hl] at h; cases h

theorem zAV_ok (z : Value) : VR F w B (zAV z) z := by
  cases z with
  | agg cs =>
    have : VR F w B (.agg (cs.toList.map .v)) (.agg cs.toList.toArray) := by
      refine .agg ?_
      induction cs.toList with
      | nil => exact .nil
      | cons x l ih => exact .cons (.v x) ih
    simpa [zAV] using this
  | _ => exact .v _

theorem go_mkm (t k e : TypeId) (ho : o.op = .makeMap t none) (hO : ∀ b, w.heap.size ≤ b → O b) (hm : MR O F w B mem) : Goes P O F w B o a (.ret (.osl mem.length)) (mem ++ [.map []]) := by
  have ext : Ext F F w (w.alloc (.map #[] 0)) B (B ++ [.map w.heap.size]) := ⟨fun _ h => h, (ext_append F w B _).pl, fun b hb => alloc_old w _ b (hm.fr b hb)⟩
  refine .value (x := .map (some w.heap.size)) (w' := w.alloc (.map #[] 0)) ?_ (hm.push (k := .map []) (l := .map w.heap.size) (by simp) (fun b hb => alloc_old w _ b (hm.old hb)) ⟨#[], 0, alloc_new w _, rfl, .nil⟩ (fun _ b hb => by cases hb; exact ⟨(hm.fresh (Nat.le_refl _)).1, (hm.fresh (Nat.le_refl _)).2, by simp, hO _ (Nat.le_refl _)⟩)) ext (ev_alloc hO _) (fun _ h => .inl h) (.omap (by rw [← hm.len]; simp))
  simp only [execOp, ho]
  rfl

theorem go_lkp (t k e : TypeId) (x i : Operand) (ok : Bool) (z : Value) (s : ByteArray) (es : List (ByteArray × AV)) (ho : o.op = .lookup t x i ok) (hu : P.underlying t = some (.map k e)) (hk : P.underlying k = some .string) (hz : (P.info? e).bind (·.zero) = some z)
    (hx : (∃ id, (compOpd x).ev ts = .osl id ∧ mem[id]? = some (.map es)) ∨ (compOpd x).ev ts = .v (.map none) ∧ es = []) (hi : (compOpd i).ev ts = .v (.string s)) (hm : MR O F w B mem) (ht : TR F w B ts a) :
    Goes P O F w B o a (.ret (lookM es z ok s)) mem := by
  have hvx := opd_ok ht x
  have hvi := opd_ok ht i
  rw [hi] at hvi
  have ei := hvi.of_v
  have hzr : (zeroValue e).run P w = .ok z w := by
    cases hinf : P.info? e with
    | none => simp [hinf] at hz
    | some inf => simp [hinf] at hz; simp [zeroValue, typeInfo, hinf, hz]
  have key : ∀ (ents : Array MapEntry) (v : Value), ents.toList.map (·.key) = es.map (fun e => Value.string e.1) → CR F w B (es.map (·.2)) (ents.toList.map (·.val)) → (v = .map none ∧ ents = #[] ∨ ∃ b clock, v = .map (some b) ∧ w.heap[b]? = some (.map ents clock)) → a.eval x = v →
      ∃ y, (execOp a.eval o).run P w = .ok (.value y) w ∧ VR F w B (lookM es z ok s) y := by
    intro ents v q1 q2 q3 ev
    have hck : ∀ b n, (Instr.checkKey b (n + 1) k (.string s)).run P w = .ok () w := fun b n => MapKept.run_checkKey hk (isKey_s s) b n
    rcases find_ok s ents.toList es 0 q1 q2 with ⟨h1, h2, _⟩ | ⟨j, en, c, h1, h2, h3, h4, h5, h6, _⟩
    · have hf := MapKept.run_findKey (P := P) (w := w) hk h2
      refine ⟨if ok then .tuple #[z, .bool false] else z, ?_, ?_⟩
      · rcases q3 with ⟨rfl, rfl⟩ | ⟨b, clock, rfl, hb⟩
        · simp only [execOp, ho, ev, ei, Instr.lookup, Sem.run_bind, run_under hu, Result.andThen_ok, Sem.run_pure, hck, hf, hzr]
          try (cases ok <;> rfl)
        · simp only [execOp, ho, ev, ei, Instr.lookup, Sem.run_bind, run_under hu, Result.andThen_ok, Sem.run_pure, MapKept.run_getObj_map hb, hck, hf, hzr]
          try (cases ok <;> rfl)
      · unfold lookM
        rw [h1]
        cases ok
        · exact zAV_ok z
        · exact .tup (.cons (zAV_ok z) (.cons (.v _) .nil))
    · have hf := MapKept.run_findKey (P := P) (w := w) hk h2
      refine ⟨if ok then .tuple #[en.val, .bool true] else en.val, ?_, ?_⟩
      · rcases q3 with ⟨rfl, rfl⟩ | ⟨b, clock, rfl, hb⟩
        · simp at h3
        · simp only [execOp, ho, ev, ei, Instr.lookup, Sem.run_bind, run_under hu, Result.andThen_ok, Sem.run_pure, MapKept.run_getObj_map hb, hck, hf]
          try (cases ok <;> rfl)
      · unfold lookM
        rw [h1]
        cases ok
        · exact h6
        · exact .tup (.cons h6 (.cons (.v _) .nil))
  rcases hx with ⟨id, hx, hid⟩ | ⟨hx, rfl⟩
  · rw [hx] at hvx
    obtain ⟨b, ents, clock, ey, _, hb, q1, q2⟩ := map_inv hid hm hvx
    obtain ⟨y, hy, hv⟩ := key ents _ q1 q2 (.inr ⟨b, clock, rfl, hb⟩) ey
    exact .pure hy hm hv
  · rw [hx] at hvx
    obtain ⟨y, hy, hv⟩ := key #[] _ rfl .nil (.inl ⟨rfl, rfl⟩) hvx.of_v
    exact .pure hy hm hv

theorem set_map_eq {α β : Type} (f : α → β) (l : List α) (j : Nat) (x : α) (h : l[j]? = some x) : l.map f = (l.map f).set j (f x) := by
  apply List.ext_getElem?
  intro k
  by_cases hk : j = k
  · subst hk; rw [List.getElem?_set_self (by simpa using (List.getElem?_eq_some_iff.1 h).1)]; simp [h]
  · rw [List.getElem?_set_ne hk]

theorem go_mup (t k e : TypeId) (x i v : Operand) (s : ByteArray) (id : Nat) (es : List (ByteArray × AV)) (ho : o.op = .mapUpdate t x i v) (hu : P.underlying t = some (.map k e)) (hk : P.underlying k = some .string)
    (hx : (compOpd x).ev ts = .osl id) (hid : mem[id]? = some (.map es)) (hi : (compOpd i).ev ts = .v (.string s)) (hm : MR O F w B mem) (ht : TR F w B ts a) :
    Goes P O F w B o a (.ret .any) (mem.set id (.map (putS es s ((compOpd v).ev ts)))) := by
  have hvx := opd_ok ht x
  have hvi := opd_ok ht i
  have hvv := opd_ok ht v
  rw [hx] at hvx
  rw [hi] at hvi
  have ei := hvi.of_v
  obtain ⟨b, ents, clock, ey, hl, hb, q1, q2⟩ := map_inv hid hm hvx
  have hck : ∀ c n, (Instr.checkKey c (n + 1) k (.string s)).run P w = .ok () w := fun c n => MapKept.run_checkKey hk (isKey_s s) c n
  intro K Q h
  unfold Oper.wp
  have fin : ∀ (ents' : Array MapEntry) (clock' : Nat), ents'.toList.map (·.key) = (putS es s ((compOpd v).ev ts)).map (fun e => Value.string e.1) → CR F w B ((putS es s ((compOpd v).ev ts)).map (·.2)) (ents'.toList.map (·.val)) →
      K (a.put o.dst undef) { w with heap := w.heap.setIfInBounds b (.map ents' clock') } := by
    intro ents' clock' r1 r2
    obtain ⟨m1, e1⟩ := hm.write (w' := { w with heap := w.heap.setIfInBounds b (.map ents' clock') }) (k := .map (putS es s ((compOpd v).ev ts))) hid hl rfl rfl (by simp) (fun c hc => (heap_set hb).2 c hc)
      (fun e1 => ⟨ents', clock', (heap_set hb).1, r1, r2.mono e1⟩)
    exact h undef _ F B m1 e1 ⟨rfl, rfl, rfl, by simp, fun c _ ho => (heap_set hb).2 c (fun hcb => ho (hcb ▸ (hm.own id b (ownB_mk hid hl rfl rfl)).1))⟩ (fun _ h => .inl h) (.any _)
  rcases find_ok s ents.toList es 0 q1 q2 with ⟨h1, h2, h3⟩ | ⟨j, en, c, h1, h2, h3, h4, h5, h6, h7⟩
  · have hf := MapKept.run_findKey (P := P) (w := w) hk h2
    have hr : (execOp a.eval o).run P w = .ok .skip { w with heap := w.heap.setIfInBounds b (.map (ents.push { key := .string s, val := a.eval v, born := clock }) (clock + 1)) } := by
      simp [execOp, ho, ey, ei, Instr.mapUpdate, Sem.run_bind, run_under hu, Result.andThen_ok, Sem.run_pure, MapKept.run_getObj_map hb, hck, hf, MapKept.run_setObj_map _ hb]
    rw [hr]
    refine fin _ _ ?_ ?_
    · rw [h3]; simp [q1]
    · rw [h3]; simp only [Array.toList_push, List.map_append, List.map_cons, List.map_nil]; exact q2.append (.one hvv)
  · have hf := MapKept.run_findKey (P := P) (w := w) hk h2
    have hj : ents[j]? = some en := by simpa using h3
    have hr : (execOp a.eval o).run P w = .ok .skip { w with heap := w.heap.setIfInBounds b (.map (ents.modify j fun e => { e with key := .string s, val := a.eval v }) clock) } := by
      simp [execOp, ho, ey, ei, Instr.mapUpdate, Sem.run_bind, run_under hu, Result.andThen_ok, Sem.run_pure, MapKept.run_getObj_map hb, hck, hf, MapKept.run_setObj_map _ hb, hj, h4, run_keyThatStays (d := .string) (k := .string s) (isKey_s s)]
    rw [hr]
    have hkey : (ents.modify j fun e => { e with key := .string s, val := a.eval v }).toList.map (·.key) = ents.toList.map (·.key) := modify_keys j _ (fun e he => by rw [hj] at he; cases he; exact h4.symm)
    have hval : (ents.modify j fun e => { e with key := .string s, val := a.eval v }).toList.map (·.val) = (ents.toList.map (·.val)).set j (a.eval v) := by
      apply List.ext_getElem?
      intro k
      simp only [List.getElem?_map, Array.getElem?_toList, Array.getElem?_modify]
      by_cases hjk : j = k
      · subst hjk
        rw [List.getElem?_set_self (by simpa using (Array.getElem?_eq_some_iff.1 hj).1)]
        simp [hj]
      · rw [List.getElem?_set_ne hjk]; simp [hjk]
    refine fin _ _ ?_ ?_
    · rw [hkey, h7, q1, List.map_set]
      have := set_map_eq (fun (e : ByteArray × AV) => Value.string e.1) _ _ _ h5
      exact this
    · rw [hval, h7, List.map_set]; exact q2.set j hvv

end

theorem equal_iface {t : TypeId} {ms : Array (String × TypeId)} (hu : P.underlying t = some (.interface ms)) (tx : TypeId) (vx : Value) : (Op.equal t (.iface tx vx) .nilIface).run P w = .ok false w := by
  show (Op.equalIn (9999 + 1) t _ _).run P w = _
  unfold Op.equalIn
  simp [run_under hu]
theorem equal_iface0 {t : TypeId} {ms : Array (String × TypeId)} (hu : P.underlying t = some (.interface ms)) : (Op.equal t .nilIface .nilIface).run P w = .ok true w := by
  show (Op.equalIn (9999 + 1) t _ _).run P w = _
  unfold Op.equalIn
  simp [run_under hu]

theorem run_guard0 (op : BinOp) (t : TypeId) (x : Operand) : (eqGuard op t x (.const .nilIface) .nilIface .nilIface).run P w = .ok () w := by
  unfold eqGuard
  cases op <;> simp

theorem go_isi (neg : Bool) (t : TypeId) (x y : Operand) (yt : TypeId) (op : BinOp) (q : Bool) (ho : o.op = .binOp op t x y yt) (hn : nilI P t op y = some neg) (hx : nilV ((compOpd x).ev ts) = some q) (hm : MR O F w B mem) (ht : TR F w B ts a) :
    Goes P O F w B o a (.ret (.v (.bool (neg != q)))) mem := by
  have hv := opd_ok ht x
  refine .pure (x := .bool (neg != q)) ?_ hm (.v _)
  have hq : (q = false ∧ ∃ tx vx, a.eval x = .iface tx vx) ∨ (q = true ∧ a.eval x = .nilIface) := by
    unfold nilV at hx
    split at hx
    · rename_i h0; rw [h0] at hv; cases hx; obtain ⟨y, hy, _⟩ := hv.of_ifc; exact .inl ⟨rfl, _, _, hy⟩
    · rename_i h0; rw [h0] at hv; cases hx; exact .inr ⟨rfl, hv.of_v⟩
    · cases hx
  have key : ∀ ms, P.underlying t = some (.interface ms) → y = .const .nilIface → (op = .eql ∧ neg = false ∨ op = .neq ∧ neg = true) → (execOp a.eval o).run P w = .ok (.value (.bool (neg != q))) w := by
    intro ms hu hy hop
    have hg : (eqGuard op t x y (a.eval x) (a.eval y)).run P w = .ok () w := by
      subst hy
      rcases hq with ⟨_, tx, vx, h1⟩ | ⟨_, h1⟩
      · rw [h1]; exact run_guard op t x _ _ _ (fun _ h => by cases h) (fun h => by cases h)
      · rw [h1]; exact run_guard0 op t x
    have he : a.eval y = .nilIface := by subst hy; rfl
    have hb : (binOp op t (a.eval x) .nilIface).run P w = .ok (.bool (neg != q)) w := by
      rcases hq with ⟨rfl, tx, vx, h1⟩ | ⟨rfl, h1⟩ <;> rcases hop with ⟨rfl, rfl⟩ | ⟨rfl, rfl⟩ <;> rw [h1]
      · have : binOp .eql t (.iface tx vx) .nilIface = (do pure (.bool (← Op.equal t (.iface tx vx) .nilIface))) := rfl
        rw [this, Sem.run_bind, equal_iface hu]; simp
      · have : binOp .neq t (.iface tx vx) .nilIface = (do pure (.bool (!(← Op.equal t (.iface tx vx) .nilIface)))) := rfl
        rw [this, Sem.run_bind, equal_iface hu]; simp
      · have : binOp .eql t .nilIface .nilIface = (do pure (.bool (← Op.equal t .nilIface .nilIface))) := rfl
        rw [this, Sem.run_bind, equal_iface0 hu]; simp
      · have : binOp .neq t .nilIface .nilIface = (do pure (.bool (!(← Op.equal t .nilIface .nilIface)))) := rfl
        rw [this, Sem.run_bind, equal_iface0 hu]; simp
    rw [he] at hg
    simp only [execOp, ho, he, Sem.run_bind, hg, Result.andThen_ok, hb]; rfl
  unfold nilI at hn
  split at hn
  · rename_i ms hu; cases hn; exact key ms hu rfl (.inl ⟨rfl, rfl⟩)
  · rename_i ms hu; cases hn; exact key ms hu rfl (.inr ⟨rfl, rfl⟩)
  · cases hn

theorem go_lenW (args : Array Operand) (x : Operand) (t e : TypeId) (ats : Array TypeId) (sz : Nat) (es : List AV) (ho : o.op = .call { callee := .builtin .len, args := args, argTypes := ats }) (h0 : ats[0]? = some t) (ha : args[0]? = some x)
    (hu : P.underlying t = some (.slice e)) (hx : elemsW mem ((compOpd x).ev ts) = some (sz, es)) (hm : MR O F w B mem) (ht : TR F w B ts a) : Goes P O F w B o a (.ret (.v (.int .i64 es.length))) mem := by
  have h := opd_ok ht x
  refine .pure (x := .int .i64 es.length) ?_ hm (.v _)
  obtain ⟨base, cap, e, _⟩ := elemsW_ok hx hm h
  simp [execOp, ho, resolve, invoke, builtin, Builtin.len_, h0, ha, run_under hu, e, goInt]

theorem go_cap (args : Array Operand) (x : Operand) (ats : Array TypeId) (ty e id off n t sz : Nat) (es : List AV) (ho : o.op = .call { callee := .builtin .cap, args := args, argTypes := ats }) (h0 : ats[0]? = some ty) (ha : args[0]? = some x) (hu : P.underlying ty = some (.slice e))
    (hx : (compOpd x).ev ts = .win id off n) (hi : mem[id]? = some (.buf t sz es)) (hm : MR O F w B mem) (ht : TR F w B ts a) : Goes P O F w B o a (.ret (.v (.int .i64 ((es.length - off : Nat) : Int)))) mem := by
  have h := opd_ok ht x
  rw [hx] at h
  refine .pure (x := .int .i64 ((es.length - off : Nat) : Int)) ?_ hm (.v _)
  obtain ⟨g, p, N, xs, e, _⟩ := win_inv hi hm h
  simp [execOp, ho, resolve, invoke, builtin, Builtin.cap_, h0, ha, run_under hu, e, goInt]

theorem go_slcW (t e : TypeId) (x : Operand) (lo hi : Option Operand) (sz id off k tt : Nat) (es : List AV) (l h : Nat) (ho : o.op = .slice t x lo hi none) (hu : P.underlying t = some (.slice e)) (hn : szOf P e = some sz)
    (hx : (compOpd x).ev ts = .win id off k) (hid : mem[id]? = some (.buf tt sz es)) (hl : boundOf ts 0 (lo.map compOpd) = some l) (hh : boundOf ts k (hi.map compOpd) = some h) (h1 : l ≤ h) (h2 : off + h ≤ es.length)
    (hm : MR O F w B mem) (ht : TR F w B ts a) : Goes P O F w B o a (.ret (.win id (off + l) (h - l))) mem := by
  have hv := opd_ok ht x
  rw [hx] at hv
  obtain ⟨g, p, N, xs, ex, q1, q2, q3, q4, q5, q6, q7, q8, q9⟩ := win_inv hid hm hv
  have key : (execOp a.eval o).run P w = .ok (.value (.slice (if es.length - off = l then some ⟨g, p, none⟩ else some ⟨g, p + l * sz, none⟩) (h - l) (es.length - off - l))) w := by
    have hb : (Instr.sliceBounds true k (es.length - off) (lo.map a.eval) (hi.map a.eval) none).run P w = .ok (l, h, es.length - off) w := by
      unfold Instr.sliceBounds
      cases hi with
      | none =>
        simp only [Option.map_none, boundOf, Option.some.injEq] at hh
        subst hh
        cases lo with
        | none =>
          simp only [Option.map_none, boundOf, Option.some.injEq] at hl
          subst hl
          rfl
        | some lo =>
          obtain ⟨v, e1, e2⟩ := bound_run (P := P) (w := w) (y := k) (code := .sliceB) ht hl (by simp) h1
          simp only [Option.map_some, Option.some.injEq] at e1
          simp only [Option.map_some, Option.map_none, Sem.run_bind, Sem.run_pure, Result.andThen_ok, Option.isSome_none, Bool.false_eq_true, if_false, e1, e2]
      | some hi =>
        obtain ⟨v, e1, e2⟩ := bound_run (P := P) (w := w) (y := es.length - off) (code := .sliceAcap) ht hh (by simp) (by omega)
        simp only [Option.map_some, Option.some.injEq] at e1
        cases lo with
        | none =>
          simp only [Option.map_none, boundOf, Option.some.injEq] at hl
          subst hl
          simp only [Option.map_some, Option.map_none, Sem.run_bind, Sem.run_pure, Result.andThen_ok, if_true, e1, e2]
        | some lo =>
          obtain ⟨v', e1', e2'⟩ := bound_run (P := P) (w := w) (y := h) (code := .sliceB) ht hl (by simp) h1
          simp only [Option.map_some, Option.some.injEq] at e1'
          simp only [Option.map_some, Sem.run_bind, Sem.run_pure, Result.andThen_ok, if_true, e1, e2, Option.isSome_none, Bool.false_eq_true, if_false, e1', e2']
    simp only [execOp, ho, Instr.sliceAt, Instr.slice, Sem.run_bind, run_under hu, Result.andThen_ok, ex]
    simp only [Option.map_none, hb, Result.andThen_ok, run_size hn, Sem.run_pure, Option.map_some, add_plain]
  refine .pure key hm ?_
  have hfin : VR F w B (.win id (off + l) (h - l)) (.slice (some ⟨g, if es.length - off = l then p else p + l * sz, none⟩) (h - l) (es.length - (off + l))) := by
    refine .win q9 (by omega) (fun hp => ?_)
    by_cases hll : es.length - off = l
    · rw [if_pos hll]
      rcases hp with hp | hp
      · omega
      · have h1 := q2 (.inr (by omega))
        have h2 : off = 0 := by omega
        have h3 : l = 0 := by omega
        rw [h1, h2, h3]
    · rw [if_neg hll]
      rcases hp with hp | hp
      · rw [q2 (.inl (by omega)), Nat.add_mul]
      · rw [q2 (.inr (by omega)), Nat.add_mul]
  rw [Nat.sub_sub]
  split
  · rename_i hll; rw [if_pos hll] at hfin; exact hfin
  · rename_i hll; rw [if_neg hll] at hfin; exact hfin

theorem go_cpy (d s : Operand) (t u e e' : TypeId) (sz id off n tt sz2 : Nat) (es es2 : List AV) (ho : o.op = .call { callee := .builtin .copy, args := #[d, s], argTypes := #[t, u] }) (hu : P.underlying t = some (.slice e)) (hn : szOf P e = some sz)
    (hd : (compOpd d).ev ts = .win id off n) (hid : mem[id]? = some (.buf tt sz es)) (hs : elemsW mem ((compOpd s).ev ts) = some (sz2, es2)) (h2 : sz2 = sz ∨ es2 = []) (hle : off + n ≤ es.length) (hsh : (es2.take n).all AV.shaped = true)
    (hm : MR O F w B mem) (ht : TR F w B ts a) : Goes P O F w B o a (.ret (.v (.int .i64 ((min es2.length n : Nat) : Int)))) (mem.set id (.buf tt sz (es.take off ++ es2.take n ++ es.drop (off + min es2.length n)))) := by
  have hv := opd_ok ht d
  rw [hd] at hv
  obtain ⟨g, p, N, xs, ex, q1, q2, q3, q4, q5, q6, q7, q8, q9⟩ := win_inv hid hm hv
  have htk : es2.take n = es2.take (min es2.length n) := by rw [List.take_eq_take_iff]; omega
  obtain ⟨news, r1, r2, r3, r4, r5, r6⟩ := src_take (P := P) (sz := sz) (min es2.length n) hs hm (opd_ok ht s) h2 (Nat.min_le_left _ _) (by rw [← htk]; exact hsh)
  have hlen : (es2.take (min es2.length n)).length = min es2.length n := by rw [List.length_take]; omega
  by_cases h0 : min es2.length n = 0
  · have hnil : news = [] := List.eq_nil_of_length_eq_zero (by rw [r3, h0]; simp)
    have heq : es.take off ++ es2.take n ++ es.drop (off + min es2.length n) = es := by rw [htk, h0]; simp
    rw [heq, set_same hid]
    refine .pure (x := .int .i64 ((min es2.length n : Nat) : Int)) ?_ hm (.v _)
    have hr := r2 w rfl
    rw [h0, hnil] at hr
    simp [execOp, ho, resolve, invoke, builtin, Builtin.copy_, run_under hu, ex, r1, run_size hn, h0, hr, storeCells, goInt, Nat.min_eq_left, show Nat.min es2.length n = 0 from h0]
  · have hp := q2 (.inl (by omega))
    obtain ⟨w', s1, s2, s3, s4⟩ := win_write (P := P) (q := off) hid q9 hm q3 q4 q5 q6 q7 r6 r5 r4 (by rw [hlen]; omega)
    rw [hlen, ← htk] at s2
    refine .value (x := .int .i64 ((min es2.length n : Nat) : Int)) (w' := w') ?_ s2 s3 s4 (fun _ h => .inl h) (.v _)
    have hr := r2 w rfl
    rw [← hp] at s1
    have hr' : (Builtin.firstCells sz (Nat.min es2.length n) (a.eval s)).run P w = .ok news.toArray w := hr
    simp [execOp, ho, resolve, invoke, builtin, Builtin.copy_, run_under hu, ex, r1, run_size hn, hr', s1, goInt]

theorem zero_cells {z : List Value} {zv : Value} (hz : zv.cells.toList = z) (h0 : 0 < z.length) (n : Nat) : (Builtin.zeroCells zv.cells n).toList = (List.replicate n z).flatten := by
  have hsz : zv.cells.size = z.length := by rw [← hz]; rfl
  unfold Builtin.zeroCells
  rw [hsz]
  apply List.ext_getElem?
  intro i
  have hl : (List.replicate n z).flatten.length = n * z.length := by simp
  by_cases hi : i < n * z.length
  · rw [Array.getElem?_toList, Array.getElem?_map, Array.getElem?_range, if_pos hi]
    simp only [Option.map_some]
    have hmod : i % z.length < z.length := Nat.mod_lt _ h0
    have e1 : zv.cells[i % z.length]! = z[i % z.length] := by
      rw [getElem!_pos zv.cells (i % z.length) (by rw [hsz]; exact hmod)]
      subst hz
      rfl
    rw [e1]
    clear hl e1
    induction n generalizing i with
    | zero => simp at hi
    | succ n ih =>
      rw [List.replicate_succ, List.flatten_cons]
      by_cases hlt : i < z.length
      · rw [List.getElem?_append_left hlt, List.getElem?_eq_getElem hlt]
        simp only [Nat.mod_eq_of_lt hlt]
      · rw [List.getElem?_append_right (by omega)]
        have h1 : (i - z.length) % z.length = i % z.length := (Nat.mod_eq_sub_mod (by omega)).symm
        have := ih (i - z.length) (by rw [Nat.add_mul] at hi; omega) (Nat.mod_lt _ h0)
        simp only [h1] at this
        exact this
  · rw [Array.getElem?_toList, Array.getElem?_map, Array.getElem?_eq_none (by simpa using hi), List.getElem?_eq_none (by rw [hl]; omega)]
    rfl

theorem cellsAll_rep (z : List Value) : ∀ n, AV.cellsAll (List.replicate n (.agg (z.map .v))) = ((List.replicate n z).flatten).map .v
  | 0 => rfl
  | n + 1 => by simp [List.replicate_succ, AV.cellsAll, cellsAll_rep z n]

theorem rep_len (z : List Value) (n : Nat) : ∀ e ∈ List.replicate n (AV.agg (z.map .v)), e.cells.length = z.length := by
  intro e he
  rw [List.eq_of_mem_replicate he]; simp

theorem go_clr (x : Operand) (t e : TypeId) (z : List Value) (id off n tt sz : Nat) (es : List AV) (ho : o.op = .call { callee := .builtin .clear, args := #[x], argTypes := #[t] }) (hu : P.underlying t = some (.slice e)) (hz : zeroOf P e = some z)
    (hx : (compOpd x).ev ts = .win id off n) (hid : mem[id]? = some (.buf tt sz es)) (hzl : z.length = sz) (h1 : ∀ u ∈ z, u.oneCell' = true) (hle : off + n ≤ es.length) (hm : MR O F w B mem) (ht : TR F w B ts a) :
    Goes P O F w B o a (.ret (.tup [])) (mem.set id (.buf tt sz (es.take off ++ List.replicate n (.agg (z.map .v)) ++ es.drop (off + n)))) := by
  have hv := opd_ok ht x
  rw [hx] at hv
  obtain ⟨g, p, N, xs, ex, q1, q2, q3, q4, q5, q6, q7, q8, q9⟩ := win_inv hid hm hv
  by_cases h0 : n = 0
  · subst h0
    have heq : es.take off ++ List.replicate 0 (AV.agg (z.map .v)) ++ es.drop (off + 0) = es := by simp
    rw [heq, set_same hid]
    refine .pure (x := .tuple #[]) ?_ hm (.tup .nil)
    simp [execOp, ho, resolve, invoke, builtin, Builtin.clear_, run_under hu, ex]
  · have hp := q2 (.inl (by omega))
    obtain ⟨v, hv1, hv2⟩ := zero_run (P := P) (w := w) hz
    have hzc := zero_cells hv2 (by omega) n
    obtain ⟨w', s1, s2, s3, s4⟩ := win_write (P := P) (q := off) (ns := List.replicate n (.agg (z.map .v))) (ys := (List.replicate n z).flatten) hid q9 hm q3 q4 q5 q6 q7 (by rw [← hzl]; exact rep_len z n) (by rw [cellsAll_rep]; exact CR.lits _) (by
      intro u hu
      obtain ⟨l, hl, hu⟩ := List.mem_flatten.1 hu
      rw [List.eq_of_mem_replicate hl] at hu
      exact h1 u hu) (by simpa using hle)
    rw [List.length_replicate] at s2
    refine .value (x := .tuple #[]) (w' := w') ?_ s2 s3 s4 (fun _ h => .inl h) (.tup .nil)
    rw [← hp] at s1
    have : ∃ k, n = k + 1 := ⟨n - 1, by omega⟩
    obtain ⟨k, rfl⟩ := this
    simp [execOp, ho, resolve, invoke, builtin, Builtin.clear_, run_under hu, ex, hv1, hzc, s1]

theorem go_appW (s x : Operand) (t u e e' : TypeId) (i : TypeInfo) (id off n tt sz2 : Nat) (es es2 : List AV) (ho : o.op = .call { callee := .builtin .append, args := #[s, x], argTypes := #[t, u] }) (ht1 : P.underlying t = some (.slice e)) (hi : P.info? e = some i) (hu : P.underlying u = some (.slice e'))
    (hs : (compOpd s).ev ts = .win id off n) (hid : mem[id]? = some (.buf tt i.size es)) (hx : elemsW mem ((compOpd x).ev ts) = some (sz2, es2)) (h2 : sz2 = i.size ∨ es2 = []) (hle : off + n + es2.length ≤ es.length) (hsh : es2.all AV.shaped = true)
    (hm : MR O F w B mem) (ht : TR F w B ts a) : Goes P O F w B o a (.ret (.win id off (n + es2.length))) (mem.set id (.buf tt i.size (es.take (off + n) ++ es2 ++ es.drop (off + n + es2.length)))) := by
  have hv := opd_ok ht s
  rw [hs] at hv
  obtain ⟨g, p, N, xs, ex, q1, q2, q3, q4, q5, q6, q7, q8, q9⟩ := win_inv hid hm hv
  obtain ⟨news, r1, r2, r3, r4, r5, r6⟩ := src_take (P := P) (sz := i.size) es2.length hx hm (opd_ok ht x) h2 (Nat.le_refl _) (by rw [List.take_length]; exact hsh)
  rw [List.take_length] at r5 r6
  have hroom : n + es2.length ≤ es.length - off := by omega
  have hr := r2 w rfl
  have hsz : szOf P e = some i.size := by simp [szOf, hi]
  by_cases h0 : es2.length = 0
  · have hnil : es2 = [] := List.eq_nil_of_length_eq_zero h0
    have hnn : news = [] := List.eq_nil_of_length_eq_zero (by rw [r3, h0]; simp)
    subst hnil
    have heq : es.take (off + n) ++ [] ++ es.drop (off + n + ([] : List AV).length) = es := by simp
    rw [heq, set_same hid]
    refine .pure (x := .slice (some ⟨g, p, none⟩) (n + 0) (es.length - off)) ?_ hm (.win q9 (by simpa using q1) q2)
    rw [hnn] at hr
    simp only [List.length_nil] at r1 hr hroom
    simp [execOp, ho, resolve, invoke, builtin, Builtin.append_, run_under ht1, run_under hu, ex, r1, run_size hsz, hr, storeCells]
    omega
  · have hp : p + n * i.size = (off + n) * i.size := by
      rw [q2 (.inl (by omega)), Nat.add_mul]
    obtain ⟨w', s1, s2, s3, s4⟩ := win_write (P := P) (q := off + n) hid q9 hm q3 q4 q5 q6 q7 r6 r5 r4 hle
    rw [← hp] at s1
    refine .value (x := .slice (some ⟨g, p, none⟩) (n + es2.length) (es.length - off)) (w' := w') ?_ s2 s3 s4 (fun _ h => .inl h) (.win (s3.pl _ _ q9) (by omega) q2)
    simp [execOp, ho, resolve, invoke, builtin, Builtin.append_, run_under ht1, run_under hu, ex, r1, run_size hsz, hr, hroom, add_plain, s1]

/-- Some zero elements behind a part that has no room for them. -/
theorem go_ap0 (s k : Operand) (t u e : TypeId) (ki : IntKind) (i : TypeInfo) (z : Value) (id off n : Nat) (kk : Int) (es : List AV) (ho : o.op = .call { callee := .builtin .append, args := #[s, k], argTypes := #[t, u] })
    (ht1 : P.underlying t = some (.slice e)) (hi : P.info? e = some i) (hz : i.zero = some z) (hzs : z.cells.size = i.size) (hsz : i.size ≠ 0) (hu : P.underlying u = some (.int ki)) (hz1 : ∀ c ∈ z.cells.toList, c.oneCell' = true)
    (hs : (compOpd s).ev ts = .win id off n) (hk : (compOpd k).ev ts = .v (.int .i64 kk)) (hid : mem[id]? = some (.buf e i.size es)) (hle : off + n ≤ es.length) (h0 : 0 ≤ kk) (hno : es.length < off + n + kk.toNat)
    (hb1 : (n + kk.toNat) * i.bytes ≤ 140737488355328) (hb2 : n + kk.toNat ≤ 140737488355328) (hsh : ((es.drop off).take n).all AV.shaped = true)
    (hO : ∀ b, w.heap.size ≤ b → O b) (hm : MR O F w B mem) (ht : TR F w B ts a) :
    Goes P O F w B o a (.ret (.osl mem.length)) (mem ++ [.arr e i.size ((es.drop off).take n ++ List.replicate kk.toNat (.agg (z.cells.toList.map .v)))]) := by
  have hv := opd_ok ht s
  rw [hs] at hv
  have hvk := opd_ok ht k
  rw [hk] at hvk
  have ek := hvk.of_v
  obtain ⟨g, p, N, xs, ex, q1, q2, q3, q4, q5, q6, q7, q8, q9⟩ := win_inv hid hm hv
  obtain ⟨news, r1, r2, r3, r4, r5, r6⟩ := src_take (P := P) (sz := i.size) n (x := .win id off n) (es2 := (es.drop off).take n) (by simp [elemsW, hid]) hm hv (.inl rfl) (by simp; omega) (by rw [List.take_take, Nat.min_self]; exact hsh)
  rw [List.take_take, Nat.min_self] at r5 r6
  obtain ⟨m, rfl⟩ := Int.eq_ofNat_of_zero_le h0
  simp only [Int.toNat_natCast] at hno hb1 hb2 ⊢
  have hm0 : m ≠ 0 := by omega
  have h63 : n + m ≤ maxLen := by simp only [maxLen]; omega
  have hsz' : szOf P e = some i.size := by simp [szOf, hi]
  have hnr : ¬ (n + m ≤ es.length - off) := by omega
  have hfit : Builtin.nextslicecap (n + m) (es.length - off) * i.bytes ≤ 281474976710656 := growslice_fits (by omega) hb1
  have h48' : ¬ (281474976710656 < Builtin.nextslicecap (n + m) (es.length - off) * i.bytes) := by omega
  have hge := grownCap_ge w (n + m) (es.length - off) e
  have hcm : grownCap w (n + m) (es.length - off) e ≤ maxLen := grownCap_le_maxLen w (n + m) (es.length - off) e h63
  have hwrap : IntKind.wrap .i64 (m : Int) = (m : Int) := by rw [IntKind.wrap_i64]; omega
  have hmb : m * i.bytes ≤ 140737488355328 := Nat.le_trans (Nat.mul_le_mul_right _ (by omega)) hb1
  have hmb' : ¬ (281474976710656 < (m : Int) * (i.bytes : Int)) := by
    rw [← Int.natCast_mul]; omega
  have h63' : ¬ (9223372036854775807 < ((n : Int) + (m : Int))) := by omega
  have hzc := zero_cells (z := z.cells.toList) rfl (by have : z.cells.toList.length = z.cells.size := rfl; omega) m
  have hrow : World.ownsRow (w.drew.alloc (.cells (news.toArray ++ Builtin.zeroCells z.cells m ++ Builtin.zeroCells z.cells (grownCap w (n + m) (es.length - off) e - (n + m))) e)) 0 e i.size (.slice (some ⟨w.heap.size, 0, none⟩) (n + m) (grownCap w (n + m) (es.length - off) e)) (n + m) (news ++ (List.replicate m z.cells.toList).flatten) := by
    have hfl : (List.replicate m z.cells.toList).flatten.length = m * i.size := by simp [hzs]
    have hlen : (news ++ (List.replicate m z.cells.toList).flatten).length = (n + m) * i.size := by rw [List.length_append, r3, hfl, Nat.add_mul]
    refine ⟨hlen, .inr ⟨w.heap.size, _, _, rfl, Nat.zero_le _, alloc_new w.drew _, hge, hcm, ?_, ?_⟩⟩
    · simp only [Array.size_append, List.size_toArray, size_zeroCells, hzs, r3, ← Nat.add_mul]
      congr 1
      omega
    · simp only [Array.toList_append, hzc]
      rw [← hlen]
      exact List.take_left
  obtain ⟨l, m1, m2, m3, m4⟩ := own_append (O := O) (mem := mem) (row := none) (t := e) (sz := i.size) (es := (es.drop off).take n) (es2 := List.replicate m (.agg (z.cells.toList.map .v))) hm hO (Nat.pos_of_ne_zero hsz) hrow
    ⟨rfl, rfl, rfl, by simp, fun k hk _ => alloc_old w.drew _ k hk⟩ (by simp; omega) (by simp) r5 (by rw [cellsAll_rep]; exact CR.lits _)
    (fun x hx => by
      rcases List.mem_append.1 hx with hx | hx
      · exact r6 x hx
      · rw [rep_len _ _ x hx]; exact hzs) (fun b hb => by cases hb) (fun b hb => by cases hb; exact .inr (Nat.le_refl _))
  refine .value (w' := w.drew.alloc (.cells (news.toArray ++ Builtin.zeroCells z.cells m ++ Builtin.zeroCells z.cells (grownCap w (n + m) (es.length - off) e - (n + m))) e)) ?_ m1 m2 m3 (fun _ h => .inl h) m4
  have hr := r2 w.drew rfl
  rw [ex] at hr
  have hmz : ¬ (m = 0 ∨ i.size = 0) := by omega
  have hai : ∀ w1, (asIntOf (Value.int .i64 (m : Int))).run P w1 = .ok (.i64, (m : Int)) w1 := fun _ => rfl
  have hnn : ¬ ((m : Int) < 0) := by omega
  simp [execOp, ho, resolve, invoke, builtin, Builtin.append_, run_under ht1, run_under hu, ex, ek, asInt, hai, hnn, sizeOf, typeInfo, zeroValue, hi, hz, hwrap, hmb', hnr, h63', h48', Question.forced, hr, newRow, grownCap, hm0, hsz, hmz]
  exact fun h => absurd h (Nat.mul_ne_zero hm0 hsz)

/-- Slices cut with a new end of their room. -/
theorem bounds3 {lo hi : Option Operand} {mx : Operand} {len cap l h m : Nat} (ht : TR F w B ts a) (hl : boundOf ts 0 (lo.map compOpd) = some l) (hh : boundOf ts len (hi.map compOpd) = some h) (hmx : boundOf ts len (some (compOpd mx)) = some m) (hne : hi ≠ none)
    (h1 : l ≤ h) (h2 : h ≤ m) (h3 : m ≤ cap) : (Instr.sliceBounds true len cap (lo.map a.eval) (hi.map a.eval) (some (a.eval mx))).run P w = .ok (l, h, m) w := by
  obtain ⟨vm, e1, e2⟩ := bound_run (P := P) (w := w) (y := cap) (code := .slice3Acap) (x := some mx) ht hmx (by simp) h3
  simp only [Option.map_some, Option.some.injEq] at e1
  unfold Instr.sliceBounds
  cases hi with
  | none => exact absurd rfl hne
  | some hi =>
    obtain ⟨vh, e3, e4⟩ := bound_run (P := P) (w := w) (y := m) (code := .slice3B) ht hh (by simp) h2
    simp only [Option.map_some, Option.some.injEq] at e3
    cases lo with
    | none =>
      simp only [Option.map_none, boundOf, Option.some.injEq] at hl
      subst hl
      simp only [Option.map_some, Option.map_none, Sem.run_bind, Sem.run_pure, Result.andThen_ok, if_true, e1, e2, e3, e4]
    | some lo =>
      obtain ⟨vl, e5, e6⟩ := bound_run (P := P) (w := w) (y := h) (code := .slice3C) ht hl (by simp) h1
      simp only [Option.map_some, Option.some.injEq] at e5
      simp only [Option.map_some, Sem.run_bind, Sem.run_pure, Result.andThen_ok, if_true, e1, e2, e3, e4, Option.isSome_some, e5, e6]

theorem go_sl3F (t e : TypeId) (x : Operand) (lo hi : Option Operand) (mx : Operand) (n sz : Nat) (es : List AV) (l h m : Nat) (ho : o.op = .slice t x lo hi (some mx)) (hu : P.underlying t = some (.slice e)) (hn : szOf P e = some n) (hne : hi ≠ none)
    (hx : (compOpd x).ev ts = .fsl sz es) (hl : boundOf ts 0 (lo.map compOpd) = some l) (hh : boundOf ts es.length (hi.map compOpd) = some h) (hmx : boundOf ts es.length (some (compOpd mx)) = some m) (h1 : l ≤ h) (h2 : h ≤ m) (h3 : m ≤ es.length) (hsz : sz = n ∨ es = [])
    (hm : MR O F w B mem) (ht : TR F w B ts a) : Goes P O F w B o a (.ret (.fsl sz ((es.drop l).take (h - l)))) mem := by
  have hv := opd_ok ht x
  rw [hx] at hv
  obtain ⟨base, cap, ex, _, hs, hr⟩ := fsl_inv hv
  have hc : es.length ≤ cap := by
    by_cases hne : es = []
    · rw [hne]; simp
    · exact (hr hne).1
  have key : (execOp a.eval o).run P w = .ok (.value (.slice (if m = l then base else base.map (·.add (l * n))) (h - l) (m - l))) w := by
    have hb := bounds3 (P := P) (cap := cap) (w := w) ht hl hh hmx hne h1 h2 (by omega)
    simp only [execOp, ho, Instr.sliceAt, Instr.slice, Sem.run_bind, run_under hu, Result.andThen_ok, ex]
    simp only [Option.map_some, hb, Result.andThen_ok, run_size hn, Sem.run_pure]
  refine .pure key hm ?_
  by_cases hlh : l = h
  · subst hlh
    simp only [Nat.sub_self, List.take_zero]
    exact .fslNil _ _
  · have hne : es ≠ [] := by intro h; subst h; simp at h3; omega
    obtain ⟨hc, b, p, xs, rfl, hF, hcr, hcell⟩ := hr hne
    have hszn : sz = n := hsz.resolve_right hne
    subst hszn
    rw [if_neg (by omega)]
    simp only [Option.map_some, add_plain]
    have hlen : ((es.drop l).take (h - l)).length = h - l := by simp; omega
    have hfin : VR F w B (.fsl sz ((es.drop l).take (h - l))) (.slice (some ⟨b, p + l * sz, none⟩) ((es.drop l).take (h - l)).length (m - l)) := by
      refine .fsl (xs := (xs.drop (l * sz)).take ((h - l) * sz)) b (p + l * sz) (m - l) ?_ (fun e he => hs e (List.mem_of_mem_drop (List.mem_of_mem_take he))) hF (fun j x hj => ?_) (by rw [hlen]; omega)
      · rw [cellsAll_take _ _ (fun e he => hs e (List.mem_of_mem_drop he)), cellsAll_drop _ _ hs]
        exact (hcr.drop _).take _
      · rw [List.getElem?_take] at hj
        split at hj
        · rw [List.getElem?_drop] at hj
          have := hcell _ _ hj
          rw [Nat.add_assoc]; exact this
        · cases hj
    rw [hlen] at hfin
    exact hfin

theorem go_sl3A (t e : TypeId) (x : Operand) (lo hi : Option Operand) (mx : Operand) (n sz : Nat) (es : List AV) (l h m : Nat) (ho : o.op = .slice t x lo hi (some mx)) (hu : P.underlying t = some (.slice e)) (hn : szOf P e = some n) (hne : hi ≠ none)
    (hx : elemsW mem ((compOpd x).ev ts) = some (sz, es)) (hl : boundOf ts 0 (lo.map compOpd) = some l) (hh : boundOf ts es.length (hi.map compOpd) = some h) (hmx : boundOf ts es.length (some (compOpd mx)) = some m) (h1 : l ≤ h) (h2 : h ≤ m) (h3 : m ≤ es.length)
    (hcap : ∀ base cap, a.eval x = .slice base es.length cap → es.length ≤ cap) (hm : MR O F w B mem) (ht : TR F w B ts a) : Goes P O F w B o a (.ret .any) mem := by
  obtain ⟨base, cap, ex, _, _⟩ := elemsW_ok hx hm (opd_ok ht x)
  have hc := hcap base cap ex
  have key : (execOp a.eval o).run P w = .ok (.value (.slice (if m = l then base else base.map (·.add (l * n))) (h - l) (m - l))) w := by
    have hb := bounds3 (P := P) (cap := cap) (w := w) ht hl hh hmx hne h1 h2 (by omega)
    simp only [execOp, ho, Instr.sliceAt, Instr.slice, Sem.run_bind, run_under hu, Result.andThen_ok, ex]
    simp only [Option.map_some, hb, Result.andThen_ok, run_size hn, Sem.run_pure]
  exact .pure key hm (.any _)

/-- A slice has room for what it has. -/
theorem cap_ge {x : AV} {sz : Nat} {es : List AV} {base : Option Addr} {n cap : Nat} (h : elemsW mem x = some (sz, es)) (hm : MR O F w B mem) (hv : VR F w B x (.slice base n cap)) (hn : n = es.length) : es.length ≤ cap := by
  by_cases hne : es = []
  · subst hne; simp
  unfold elemsW at h
  split at h
  · rename_i id off k
    split at h
    · rename_i t sz' es' hi
      cases h
      obtain ⟨g, p, N, xs, ey, h1, _⟩ := win_inv hi hm hv
      cases ey
      simp; omega
    · cases h
  · unfold elems at h
    split at h
    · cases h
      obtain ⟨b, c, e, _, _, hr⟩ := fsl_inv hv
      cases e
      exact (hr hne).1
    · rename_i id
      split at h
      · rename_i t sz es hi
        cases h
        obtain ⟨h1, h2, ⟨xs, h3, h4⟩, h5⟩ := own_inv hi hm hv
        rcases h3.2 with ⟨h6, h7⟩ | ⟨g, c, cur, h6, _, _, h7, _⟩
        · exact absurd (List.eq_nil_of_length_eq_zero h7) hne
        · cases h6; exact h7
      · rename_i sz es hi
        cases h
        obtain ⟨b, c, e, _, _, hr⟩ := fsl_inv (frz_fsl hi hm hv)
        cases e
        exact (hr hne).1
      · rename_i t sz es hi
        cases h
        obtain ⟨b, off, c, cur, xs, ey, q1, q2, _⟩ := wrr_inv hi hm hv
        cases ey; exact q2
      · cases h
    · cases h; exact absurd rfl hne
    · cases h
end
end Go.Proofs.YtajpaagbfmjacaaGreatDoor.Am
/-
  THE ABSTRACT MACHINE, ELEVENTH PART: all operations in one word. No program is named here.
-/
namespace Go.Proofs.YtajpaagbfmjacaaGreatDoor.Am
set_option linter.unusedSimpArgs false
set_option linter.unusedVariables false
open Go
section
variable {P : Program} {O F F' : Nat → Prop} {w w' : World} {B B' : List Loc} {ts : Nat → AV} {mem mem' : List Blk} {a : Act} {o : Oper}

theorem bytes_av (s : List UInt8) : CR F w [] (AV.cellsAll (s.map fun b => AV.v (.int .u8 b.toNat))) (s.map fun b => Value.int .u8 b.toNat) := by
  induction s with
  | nil => exact .nil
  | cons b s ih => exact .cons (.v _) ih

theorem bytes_av_len (s : List UInt8) : ∀ e ∈ (s.map fun b => AV.v (.int .u8 b.toNat)), e.cells.length = 1 := by
  intro e he
  simp only [List.mem_map] at he
  obtain ⟨b, _, rfl⟩ := he
  rfl

theorem bytes_av_shaped (s : List UInt8) : (s.map fun b => AV.v (.int .u8 b.toNat)).all AV.shaped = true := by
  induction s with
  | nil => rfl
  | cons b s ih => simp [AV.shaped, AV.one, Value.oneCell']

theorem go_s2b (st dt e : TypeId) (x : Operand) (s : ByteArray) (ho : o.op = .convert st dt x) (h1 : P.underlying st = some .string) (h2 : P.underlying dt = some (.slice e)) (h3 : P.underlying e = some (.int .u8)) (hx : (compOpd x).ev ts = .v (.string s))
    (hO : ∀ b, w.heap.size ≤ b → O b) (hm : MR O F w B mem) (ht : TR F w B ts a) : Goes P O F w B o a (.ret (.fsl 1 (s.data.toList.map fun b => .v (.int .u8 b.toNat)))) mem := by
  have hv := opd_ok ht x
  rw [hx] at hv
  have hrun := Lib.run_convert_string_bytes w st dt e s h1 h2 h3
  have hsz := Lib.bytesWorld_size w e s
  have hold : ∀ b, b < w.heap.size → (Lib.bytesWorld w e s).heap[b]? = w.heap[b]? := fun b hb => Lib.bytesWorld_at_old w e s b hb
  have m1 : MR O (fun b => F b ∨ b = w.heap.size) (Lib.bytesWorld w e s) B mem := by
    have e1 : Ext F (fun b => F b ∨ b = w.heap.size) w (Lib.bytesWorld w e s) B B := ⟨fun b hb => .inl hb, fun _ _ h => h, fun b hb => hold b (hm.fr b hb)⟩
    refine ⟨hm.len, fun i b l q1 q2 => (hm.br i b l q1 q2).mono e1 (fun ho k hk => hold k (hm.own i k (ownB_mk q1 q2 ho hk)).2.2), hm.sep, fun i b hi => ?_, fun b hb => ?_, hm.gl.mono e1.fr e1.hp⟩
    · obtain ⟨g1, g2, g3⟩ := hm.own i b hi
      exact ⟨g1, fun hb => by rcases hb with hb | hb; exact g2 hb; omega, by omega⟩
    · rcases hb with hb | hb
      · have := hm.fr b hb; omega
      · omega
  have e1 : Ext F (fun b => F b ∨ b = w.heap.size) w (Lib.bytesWorld w e s) B B := ⟨fun b hb => .inl hb, fun _ _ h => h, fun b hb => hold b (hm.fr b hb)⟩
  have ev1 : Ev O w (Lib.bytesWorld w e s) := ⟨rfl, rfl, rfl, by omega, fun k hk _ => hold k hk⟩
  refine .value (x := .slice (some ⟨w.heap.size, 0, none⟩) s.size (grownCap w s.size 0 e)) (w' := Lib.bytesWorld w e s) ?_ m1 e1 ev1 (fun b hb => ?_) ?_
  · simp only [execOp, ho, hv.of_v, Sem.run_bind, hrun, Result.andThen_ok, Sem.run_pure]
  · rcases hb with hb | hb
    · exact .inl hb
    · exact .inr (hO b (by omega))
  · have hlen : (s.data.toList.map fun b => AV.v (.int .u8 b.toNat)).length = s.size := by simp
    have := VR.fsl (F := fun b => F b ∨ b = w.heap.size) (w := Lib.bytesWorld w e s) (B := B) (sz := 1) (es := s.data.toList.map fun b => AV.v (.int .u8 b.toNat)) w.heap.size 0 (grownCap w s.size 0 e) (bytes_av _) (bytes_av_len _) (.inr rfl)
      (fun j x hj => by
        simp only [List.getElem?_map, Option.map_eq_some_iff] at hj
        obtain ⟨b, hb, rfl⟩ := hj
        have hlt : j < s.size := by have := (List.getElem?_eq_some_iff.1 hb).1; simpa using this
        have hc := Lib.bytesWorld_cell w e s j hlt
        rw [Nat.zero_add, hc, List.getD_eq_getElem?_getD, hb]; simp) (by rw [hlen]; exact grownCap_ge w s.size 0 e)
    rw [hlen] at this
    exact this

theorem str_src (s : ByteArray) : Builtin.lenOf (.string s) = pure s.size ∧ (∀ w1 : World, w1.heap = w.heap → (Builtin.firstCells 1 s.size (.string s)).run P w1 = .ok (s.data.toList.map fun b => Value.int .u8 b.toNat).toArray w1) ∧
    (s.data.toList.map fun b => Value.int .u8 b.toNat).length = s.size * 1 ∧ (∀ u ∈ (s.data.toList.map fun b => Value.int .u8 b.toNat), u.oneCell' = true) := by
  refine ⟨rfl, fun w1 _ => Lib.run_firstCells_string (P := P) w1 1 s, by simp, fun u hu => ?_⟩
  simp only [List.mem_map] at hu
  obtain ⟨b, _, rfl⟩ := hu
  rfl

theorem isU8_under {t : TypeId} (h : isU8 P t = true) : P.underlying t = some (.int .u8) := by
  unfold isU8 at h
  split at h
  · assumption
  · cases h

theorem elemOf_under {t e : TypeId} (h : elemOf? P t = some e) : P.underlying t = some (.slice e) := by
  unfold elemOf? at h
  split at h
  · cases h; assumption
  · cases h

theorem structOf_under {t : TypeId} {fs : Array Field} (h : structOf P t = some fs) : P.underlying t = some (.struct fs) := by
  unfold structOf at h
  split at h
  · cases h; assumption
  · cases h

/-- EVERY OPERATION GOES AS THE ABSTRACT ONE SAYS. -/
theorem isStr_under {t : TypeId} (h : isStr P t = true) : P.underlying t = some .string := by
  unfold isStr at h
  split at h
  · assumption
  · cases h

theorem step_sound0 (Γ : Env) (hΓ : EnvOk P Γ) {ao : AOp} {r : Res} (hc : compOp0 P o.type o.op = some ao) (hs : stepA Γ ts mem ao = some (r, mem'))
    (hO : ∀ b, w.heap.size ≤ b → O b) (hm : MR O F w B mem) (ht : TR F w B ts a) : Goes P O F w B o a r mem' := by
  generalize hop : o.op = op at hc
  cases op with
  | move x =>
    simp only [compOp0] at hc; cases hc
    simp only [stepA] at hs; cases hs
    exact go_mov x (.inl hop) hm ht
  | assign x =>
    simp only [compOp0] at hc; cases hc
    simp only [stepA] at hs; cases hs
    exact go_mov x (.inr hop) hm ht
  | pick c x y =>
    simp only [compOp0] at hc; cases hc
    simp only [stepA] at hs
    split at hs
    · rename_i t hct
      have hg := go_pick (P := P) (O := O) c x y t hop hct hm ht
      split at hs
      · rename_i b1 b2 h1 h2
        cases hs
        rw [h1, h2] at hg
        cases t <;> exact hg
      · cases hs; exact hg
    · cases hs
  | alloc t =>
    simp only [compOp0] at hc
    cases hz : zeroOf P t with
    | none => simp [hz] at hc
    | some z =>
      simp [hz] at hc; subst hc
      simp only [stepA] at hs; cases hs
      exact go_alloc t z hop hz hO hm
  | box t x =>
    simp only [compOp0] at hc; cases hc
    simp only [stepA] at hs
    split at hs
    · cases hs; exact go_box t x hop ‹_› hO hm ht
    · cases hs
  | build t parts =>
    simp only [compOp0] at hc
    split at hc
    · rename_i z fs hz hu
      split at hc
      · rename_i hall
        cases hp : partsS P fs parts.toList with
        | none => simp [hp] at hc
        | some ps =>
          simp [hp] at hc; subst hc
          simp only [stepA] at hs
          cases hf : fillA (z.map .v) (ps.map fun p => (p.1, p.2.1, p.2.2.ev ts)) with
          | none => simp [hf] at hs
          | some cs => simp [hf] at hs; obtain ⟨rfl, rfl⟩ := hs; exact go_bldS t parts z fs ps cs hop hz hu hall hp hf hm ht
      · cases hc
    · rename_i z n e hz hu
      cases hn : szOf P e with
      | none => simp [hn] at hc
      | some k =>
        simp only [hn, Option.map_some, Option.some.injEq] at hc; subst hc
        simp only [stepA] at hs
        cases hf : fillA (z.map .v) ((parts.toList.map fun (i, x) => (i * k, k, compOpd x)).map fun p => (p.1, p.2.1, p.2.2.ev ts)) with
        | none => rw [hf] at hs; cases hs
        | some cs => rw [hf] at hs; simp only [Option.map_some, Option.some.injEq, Prod.mk.injEq] at hs; obtain ⟨rfl, rfl⟩ := hs; exact go_bldA t e n parts z k cs hop hz hu hn hf hm ht
    · cases hc
  | buildSlice t len parts =>
    simp only [compOp0] at hc
    split at hc
    · rename_i e he
      split at hc
      · rename_i n z hn hz
        split at hc
        · rename_i hcond
          cases hc
          simp only [Bool.and_eq_true, bne_iff_ne, beq_iff_eq, decide_eq_true_eq] at hcond
          obtain ⟨⟨⟨h1, h2⟩, h3⟩, h4⟩ := hcond
          simp only [stepA] at hs
          split at hs
          · rename_i hall
            cases hs
            rw [List.map_map]
            refine go_bsl t e len n parts z hop (elemOf_under he) hn hz h1 h2 h3 h4 (fun x hx => ?_) hO hm ht
            simp only [List.all_map, List.all_eq_true, Function.comp, Bool.and_eq_true, beq_iff_eq] at hall
            obtain ⟨⟨g1, g2⟩, g3⟩ := hall x hx
            exact ⟨g1, g2, g3⟩
          · cases hs
        · cases hc
      · cases hc
    · cases hc
  | load t x =>
    simp only [compOp0] at hc
    cases hk : kOf P t with
    | none => simp [hk] at hc
    | some k =>
      simp [hk] at hc; subst hc
      simp only [stepA] at hs
      split at hs
      · rename_i cs hcs
        cases hv : mk k.1 cs with
        | none => simp [hv] at hs
        | some v => simp [hv] at hs; obtain ⟨rfl, rfl⟩ := hs; exact go_ld t x k cs v hop hk hcs hv hm ht
      · cases hs
  | store t x y =>
    simp only [compOp0] at hc
    cases hk : szOf P t with
    | none => simp [hk] at hc
    | some n =>
      simp [hk] at hc; subst hc
      simp only [stepA] at hs
      split at hs
      · rename_i hcond
        cases hp : putAt mem ((compOpd y).ev ts).cells ((compOpd x).ev ts) with
        | none => simp [hp] at hs
        | some m => simp [hp] at hs; obtain ⟨rfl, rfl⟩ := hs; exact go_st t x y n hop hk hcond.1 hcond.2 hp hm ht
      · cases hs
  | nilCheck x =>
    simp only [compOp0] at hc; cases hc
    simp only [stepA] at hs
    split at hs
    · cases hs; exact go_chk x _ hop ‹_› (.inl ⟨_, _, _, rfl⟩) hm ht
    · cases hs; exact go_chk x _ hop ‹_› (.inr (.inl ⟨_, _, rfl⟩)) hm ht
    · cases hs; exact go_chk x _ hop ‹_› (.inr (.inr (.inl ⟨_, _, rfl⟩))) hm ht
    · cases hs; exact go_chk x _ hop ‹_› (.inr (.inr (.inr ⟨_, _, _, rfl⟩))) hm ht
    · cases hs
  | binOp op t x y yt =>
    simp only [compOp0] at hc
    split at hc
    · rename_i hagg
      split at hc
      · split at hc
        · cases hc
        · rename_i hgd
          cases hk : flatK P 6 t with
          | none => simp [hk] at hc
          | some ks =>
            simp [hk] at hc; subst hc
            simp only [stepA] at hs
            split at hs
            · rename_i cs ds h1 h2
              cases he : eqCells ks cs ds with
              | none => simp [he] at hs
              | some r0 =>
                simp [he] at hs; obtain ⟨rfl, rfl⟩ := hs
                obtain ⟨l1, l2⟩ := eqCells_len ks cs ds r0 he
                have := go_eqs (O := O) false t x y yt ks cs ds r0 hop hk hagg (by simpa using hgd) h1 h2 l1 l2 he hm ht
                simpa using this
            · cases hs
      · split at hc
        · cases hc
        · rename_i hgd
          cases hk : flatK P 6 t with
          | none => simp [hk] at hc
          | some ks =>
            simp [hk] at hc; subst hc
            simp only [stepA] at hs
            split at hs
            · rename_i cs ds h1 h2
              cases he : eqCells ks cs ds with
              | none => simp [he] at hs
              | some r0 =>
                simp [he] at hs; obtain ⟨rfl, rfl⟩ := hs
                obtain ⟨l1, l2⟩ := eqCells_len ks cs ds r0 he
                have := go_eqs (O := O) true t x y yt ks cs ds r0 hop hk hagg (by simpa using hgd) h1 h2 l1 l2 he hm ht
                simpa using this
            · cases hs
      · cases hc
    · split at hc
      · rename_i q hq
        cases hc
        simp only [stepA] at hs
        cases hn : nilQ mem q.1 ((compOpd x).ev ts) with
        | none => simp [hn] at hs
        | some r0 => simp [hn] at hs; obtain ⟨rfl, rfl⟩ := hs; exact go_isn q.1 q.2 t x y yt op r0 hop hq hn hm ht
      split at hc
      · rename_i neg hq
        cases hc
        simp only [stepA] at hs
        cases hn : nilV ((compOpd x).ev ts) with
        | none => simp [hn] at hs
        | some r0 => simp [hn] at hs; obtain ⟨rfl, rfl⟩ := hs; exact go_isi neg t x y yt op r0 hop hq hn hm ht
      cases hc
      simp only [stepA] at hs
      split at hs
      · rename_i va vb h1 h2
        cases hr : binV (isBool P t) op va vb with
        | none => simp [hr] at hs
        | some r0 => simp [hr] at hs; obtain ⟨rfl, rfl⟩ := hs; exact go_bin op t x y yt va vb r0 hop h1 h2 hr hm ht
      · cases hs
  | unOp op t x =>
    simp only [compOp0] at hc; cases hc
    simp only [stepA] at hs
    split at hs
    · rename_i va h1
      cases hr : unV op va with
      | none => simp [hr] at hs
      | some r0 => simp [hr] at hs; obtain ⟨rfl, rfl⟩ := hs; exact go_un op t x va r0 hop h1 hr hm ht
    · cases hs
  | convert s d x =>
    simp only [compOp0] at hc
    split at hc
    · rename_i ks k h1 h2
      cases hc
      simp only [stepA] at hs
      split at hs
      · rename_i k0 n h3; cases hs; exact go_cvt s d x ks k n k0 hop h1 h2 h3 hm ht
      · cases hs
    · rename_i h1 h2
      cases hc
      simp only [stepA] at hs
      split at hs
      · rename_i y h3; cases hs; exact go_cvs s d x y hop h1 h2 h3 hm ht
      · cases hs
    · rename_i e h1 h2
      split at hc
      · rename_i hu8
        cases hc
        simp only [stepA] at hs
        split at hs
        · rename_i sz es h3
          split at hs
          · cases hb : bytesOf es with
            | none => simp [hb] at hs
            | some l => simp [hb] at hs; obtain ⟨rfl, rfl⟩ := hs; exact go_b2s s d e x sz es l hop h1 h2 (isU8_under hu8) h3 hb hm ht
          · cases hs
        · cases hs
      · cases hc
    · rename_i e h1 h2
      split at hc
      · rename_i hu8
        cases hc
        simp only [stepA] at hs
        split at hs
        · rename_i y h3; cases hs; exact go_s2b s d e x y hop h1 h2 (isU8_under hu8) h3 hO hm ht
        · cases hs
      · cases hc
    · cases hc
  | makeInterface t x =>
    simp only [compOp0] at hc
    split at hc
    · cases hc
    · cases hc
    · rename_i h1 h2
      cases hc
      simp only [stepA] at hs
      cases hu : P.underlying t with
      | none => exact absurd hu h2
      | some d =>
        have hg := go_mki (P := P) (O := O) t x hop d hu (fun ms he => h1 ms (by rw [hu, he])) hm ht
        split at hs
        · cases hs
        · cases hs; exact hg
  | slice t x lo hi mx =>
    cases mx with
    | some m =>
      cases hi with
      | none => simp [compOp0] at hc
      | some hi =>
        simp only [compOp0] at hc
        split at hc
        · rename_i e hu
          cases hn : szOf P e with
          | none => simp [hn] at hc
          | some n =>
            simp [hn] at hc; subst hc
            simp only [stepA] at hs
            split at hs
            · rename_i sz es h3
              split at hs
              · rename_i l h m' h4 h5 h6
                split at hs
                · rename_i hcond; cases hs; exact go_sl3F t e x lo (some hi) m n sz es l h m' hop hu hn (by simp) h3 h4 h5 h6 hcond.1 hcond.2.1 hcond.2.2.1 hcond.2.2.2 hm ht
                · cases hs
              · cases hs
            · split at hs
              · rename_i sz es h3
                split at hs
                · rename_i l h m' h4 h5 h6
                  split at hs
                  · rename_i hcond
                    cases hs
                    exact go_sl3A t e x lo (some hi) m n sz es l h m' hop hu hn (by simp) h3 h4 h5 h6 hcond.1 hcond.2.1 hcond.2.2 (fun base cap hx => by
                      have hv := opd_ok ht x
                      rw [hx] at hv
                      exact cap_ge h3 hm hv rfl) hm ht
                  · cases hs
                · cases hs
              · cases hs
        · cases hc
    | none =>
      simp only [compOp0] at hc
      split at hc
      · rename_i hu
        cases hc
        simp only [stepA] at hs
        split at hs
        · rename_i y h3
          split at hs
          · rename_i l h h4 h5
            split at hs
            · rename_i hcond; cases hs; exact go_slcS t x lo hi y l h hop hu h3 h4 h5 hcond.1 hcond.2 hm ht
            · cases hs
          · cases hs
        · cases hs
      · rename_i e hu
        cases hn : szOf P e with
        | none => simp [hn] at hc
        | some n =>
          simp [hn] at hc; subst hc
          simp only [stepA] at hs
          split at hs
          · rename_i sz es h3
            split at hs
            · rename_i l h h4 h5
              split at hs
              · rename_i hcond; cases hs; exact go_slc t e x lo hi n sz es l h hop hu hn h3 h4 h5 hcond.1 hcond.2.1 hcond.2.2 hm ht
              · cases hs
            · cases hs
          · rename_i id off k h3
            have h3' : (compOpd x).ev ts = .win id off k := by
              have h4 := h3
              cases hq : (compOpd x).ev ts with
              | win i o q => rw [hq] at h4; simpa [AV.frz] using h4
              | v y =>
                rw [hq] at h4
                unfold AV.frz at h4
                split at h4 <;> first | cases h4 | simp_all
              | osl i =>
                exfalso
                rw [hq] at h4
                unfold AV.frz at h4
                split at h4
                · cases h4
                · cases h4
                · rename_i a0 hi0
                  subst h4
                  have hlt := (List.getElem?_eq_some_iff.1 hi0).1
                  obtain ⟨l, hl⟩ : ∃ l, B[i]? = some l := ⟨_, List.getElem?_eq_getElem (by rw [hm.len]; exact hlt)⟩
                  have hbr := hm.br i _ l hi0 hl
                  match l, hbr with
                  | .arr _ g _ _, hbr =>
                    have hbr' : ∃ (G : Nat → Prop) (y0 : Value), VR G w [] (.win id off k) y0 := ⟨_, _, hbr⟩
                    obtain ⟨G, y0, hb⟩ := hbr'
                    cases hb with | win h _ _ => simp at h
                  | .wrr _ b _ _ _, hbr =>
                    have hbr' : ∃ (G : Nat → Prop) (y0 : Value), VR G w [] (.win id off k) y0 := ⟨_, _, hbr⟩
                    obtain ⟨G, y0, hb⟩ := hbr'
                    cases hb with | win h _ _ => simp at h
                · cases h4
              | _ => rw [hq] at h4; simp [AV.frz] at h4
            split at hs
            · rename_i tt sz es hid
              split at hs
              · rename_i l h h4 h5
                split at hs
                · rename_i hcond
                  obtain ⟨c1, c2, rfl⟩ := hcond
                  cases hs; exact go_slcW t e x lo hi sz id off k tt es l h hop hu hn h3' hid h4 h5 c1 c2 hm ht
                · cases hs
              · cases hs
            · cases hs
          · cases hs
      · cases hc
  | fieldAddr s x i =>
    simp only [compOp0] at hc
    split at hc
    · rename_i fs hfs
      cases hf : fs[i]? with
      | none => simp [hf] at hc
      | some f =>
        simp only [hf, Option.bind_some] at hc
        split at hc
        · rename_i n hn
          cases hc
          simp only [stepA] at hs
          split at hs
          · rename_i id j k h1; cases hs; exact go_fad s x i fs f n _ hop (structOf_under hfs) hf hn (.inl ⟨id, j, k, h1, rfl⟩) hm ht
          · rename_i e k h1; cases hs; exact go_fad s x i fs f n _ hop (structOf_under hfs) hf hn (.inr ⟨e, k, h1, rfl⟩) hm ht
          · cases hs
        · cases hc
    · cases hc
  | field s x i =>
    simp only [compOp0] at hc
    split at hc
    · rename_i fs hfs
      cases hf : fs[i]? with
      | none => simp [hf] at hc
      | some f =>
        cases hk : kOf P f.type with
        | none => simp [hf, hk] at hc
        | some k =>
          simp [hf, hk] at hc; subst hc
          simp only [stepA] at hs
          split at hs
          · rename_i cs h1
            split at hs
            · rename_i hle
              cases hv : mk k.1 ((cs.drop f.offset).take k.2) with
              | none => simp [hv] at hs
              | some v => simp [hv] at hs; obtain ⟨rfl, rfl⟩ := hs; exact go_fld s x i fs f k cs v hop (structOf_under hfs) hf hk h1 hle hv hm ht
            · cases hs
          · cases hs
    · cases hc
  | indexAddr t x i =>
    simp only [compOp0] at hc
    split at hc
    · rename_i e hu
      cases hn : szOf P e with
      | none => simp [hn] at hc
      | some n =>
        simp [hn] at hc; subst hc
        simp only [stepA] at hs
        split at hs
        · rename_i sz es k h1 h2
          split at hs
          · rename_i hcond
            obtain ⟨h0, rfl⟩ := hcond
            cases he : es[k.toNat]? with
            | none => simp [he] at hs
            | some el => simp [he] at hs; obtain ⟨rfl, rfl⟩ := hs; exact go_iaxF t e x i sz es k el hop hu hn (.inl h1) h2 h0 he hm ht
          · cases hs
        · rename_i id k h1 h2
          split at hs
          · rename_i tt sz es h3
            split at hs
            · rename_i hcond
              obtain ⟨h0, h4, rfl⟩ := hcond
              cases hs
              exact go_iaxO t e x i tt sz id es k hop hu hn h1 h3 h2 h0 h4 hm ht
            · cases hs
          · rename_i sz es h3
            split at hs
            · rename_i hcond
              obtain ⟨h0, rfl⟩ := hcond
              cases he : es[k.toNat]? with
              | none => simp [he] at hs
              | some el => simp [he] at hs; obtain ⟨rfl, rfl⟩ := hs; exact go_iaxF t e x i sz es k el hop hu hn (.inr ⟨id, h1, h3⟩) h2 h0 he hm ht
            · cases hs
          · rename_i tt sz es h3
            split at hs
            · rename_i hcond
              obtain ⟨h0, h4, rfl⟩ := hcond
              cases hs
              exact go_iaxY t e x i tt sz id es k hop hu hn h1 h3 h2 h0 h4 hm ht
            · cases hs
          · cases hs
        · cases hs
    · rename_i len e hu
      cases hn : szOf P e with
      | none => simp [hn] at hc
      | some n =>
        simp [hn] at hc; subst hc
        simp only [stepA] at hs
        split at hs
        · rename_i id j q k h1 h2
          split at hs
          · rename_i hcond; cases hs; exact go_iaa t e x i len n k _ hop hu hn (.inl ⟨id, j, q, h1, rfl⟩) h2 hcond.1 hcond.2 hm ht
          · cases hs
        · rename_i e' q k h1 h2
          split at hs
          · rename_i hcond; cases hs; exact go_iaa t e x i len n k _ hop hu hn (.inr ⟨e', q, h1, rfl⟩) h2 hcond.1 hcond.2 hm ht
          · cases hs
        · rename_i b q k h1 h2
          split at hs
          · rename_i cs hg
            split at hs
            · rename_i hcond; cases hs; exact go_iag t e x i len n b q cs k hop hu hn h1 hg h2 hcond.1 hcond.2 hm ht
            · cases hs
          · cases hs
        · cases hs
    · cases hc
  | index t x i =>
    simp only [compOp0] at hc
    split at hc
    · rename_i hu
      cases hc
      simp only [stepA] at hs
      split at hs
      · rename_i s k h1 h2
        split at hs
        · rename_i h0
          cases hb : s.data.toList[k.toNat]? with
          | none => simp only [hb, Option.map_none] at hs; cases hs
          | some b => simp only [hb, Option.map_some, Option.some.injEq, Prod.mk.injEq] at hs; obtain ⟨rfl, rfl⟩ := hs; exact go_ixs t x i s k b hop hu h1 h2 h0 hb hm ht
        · cases hs
      · cases hs
    · rename_i len e hu
      cases hk : kOf P e with
      | none => simp [hk] at hc
      | some kk =>
        simp [hk] at hc; subst hc
        simp only [stepA] at hs
        split at hs
        · rename_i cs k h1 h2
          split at hs
          · rename_i hcond
            cases hv : mk kk.1 ((cs.drop (k.toNat * kk.2)).take kk.2) with
            | none => simp [hv] at hs
            | some v => simp [hv] at hs; obtain ⟨rfl, rfl⟩ := hs; exact go_ixa t x i len e kk cs k v hop hu hk h1 h2 hcond.1 hcond.2.1 hcond.2.2 hv hm ht
          · cases hs
        · cases hs
    · cases hc
  | extract x k =>
    simp only [compOp0] at hc; cases hc
    simp only [stepA] at hs
    split at hs
    · rename_i vs h1
      cases hv : vs[k]? with
      | none => simp [hv] at hs
      | some v => simp [hv] at hs; obtain ⟨rfl, rfl⟩ := hs; exact go_ext k x vs v hop h1 hv hm ht
    · cases hs
  | panic x =>
    simp only [compOp0] at hc; cases hc
    simp only [stepA] at hs
    split at hs
    · rename_i t v h1; cases hs; exact go_pan x t v hop h1 hm ht
    · cases hs
  | makeFunc fn first caps =>
    cases fn with
    | func f =>
      simp only [compOp0] at hc
      split at hc
      · rename_i he
        cases hc
        simp only [stepA] at hs; cases hs
        rw [List.map_map]
        exact go_mkf f first caps hop he hm ht
      · cases hc
    | _ => simp [compOp0] at hc
  | call c =>
    obtain ⟨callee, args, ats⟩ := c
    have hargs := mapCR ht args.toList
    have hmap : (args.map a.eval) = (args.toList.map a.eval).toArray := by apply Array.toList_inj.1; simp
    cases callee with
    | invoke rc m => simp [compOp0] at hc
    | value x =>
      have direct : ∀ f, x = .func f → ao = .call f (args.toList.map compOpd) → Goes P O F w B o a r mem' := by
        rintro f rfl rfl
        simp only [stepA, List.map_map] at hs
        refine go_call Γ hΓ f _ (args.toList.map a.eval) r ?_ hs hO hm hargs
        simp only [execOp, hop, resolve, Act.eval, Deferred.ofValue, invoke, Sem.run_bind, Sem.run_pure, Result.andThen_ok]
        have : (#[] ++ args.map a.eval ++ #[] : Array Value) = (args.toList.map a.eval).toArray := by rw [← hmap]; simp
        rw [← this]
      have indirect : ao = .calv (compOpd x) (args.toList.map compOpd) → Goes P O F w B o a r mem' := by
        rintro rfl
        have hv := opd_ok ht x
        simp only [stepA, List.map_map] at hs
        split at hs
        · rename_i g hx
          rw [hx] at hv
          refine go_call Γ hΓ g _ (args.toList.map a.eval) r ?_ hs hO hm hargs
          simp only [execOp, hop, resolve, hv.of_v, Deferred.ofValue, invoke, Sem.run_bind, Sem.run_pure, Result.andThen_ok]
          have : (#[] ++ args.map a.eval ++ #[] : Array Value) = (args.toList.map a.eval).toArray := by rw [← hmap]; simp
          rw [← this]
        · rename_i g caps hx
          rw [hx] at hv
          obtain ⟨us, e, hcr⟩ := hv.of_fn
          refine go_call Γ hΓ g _ (args.toList.map a.eval ++ us) r ?_ hs hO hm (hargs.append hcr)
          simp only [execOp, hop, resolve, e, Deferred.ofValue, invoke, Sem.run_bind, Sem.run_pure, Result.andThen_ok]
          have : (#[] ++ args.map a.eval ++ us.toArray : Array Value) = (args.toList.map a.eval ++ us).toArray := by rw [hmap]; simp
          rw [← this]
        · cases hs
      cases x with
      | func f => simp only [compOp0] at hc; cases hc; exact direct f rfl rfl
      | tmp t => simp only [compOp0] at hc; cases hc; exact indirect rfl
      | const v => simp only [compOp0] at hc; cases hc; exact indirect rfl
      | global g => simp only [compOp0] at hc; cases hc; exact indirect rfl
    | builtin b =>
      cases b with
      | len =>
        simp only [compOp0] at hc
        split at hc
        · rename_i t x h0 ha
          split at hc
          · rename_i hu
            cases hc
            simp only [stepA] at hs
            split at hs
            · rename_i s h1; cases hs; exact go_len (O := O) (mem := mem) args x t ats s.size hop h0 ha (.inl ⟨hu, s, h1, rfl⟩) hm ht
            · cases hs
          · rename_i e hu
            cases hc
            simp only [stepA] at hs
            cases he : elemsW mem ((compOpd x).ev ts) with
            | none => simp [he] at hs
            | some p => simp [he] at hs; obtain ⟨rfl, rfl⟩ := hs; exact go_lenW args x t e ats p.1 p.2 hop h0 ha hu he hm ht
          · rename_i n e hu
            cases hc
            simp only [stepA] at hs; cases hs
            exact go_lenA args x t e ats n hop h0 ha hu hm
          · cases hc
        · cases hc
      | cap =>
        simp only [compOp0] at hc
        split at hc
        · rename_i t x h0 ha
          cases he : elemOf? P t with
          | none => simp [he] at hc
          | some e =>
            simp [he] at hc; subst hc
            simp only [stepA] at hs
            split at hs
            · rename_i id off n hx
              split at hs
              · rename_i tt sz es hid; cases hs; exact go_cap args x ats t e id off n tt sz es hop h0 ha (elemOf_under he) hx hid hm ht
              · cases hs
            · cases hs
        · cases hc
      | copy =>
        simp only [compOp0] at hc
        unfold compCpy at hc
        split at hc
        · rename_i d s t u hl1 hl2
          have ha1 : args = #[d, s] := by apply Array.toList_inj.1; simpa using hl1
          have ha2 : ats = #[t, u] := by apply Array.toList_inj.1; simpa using hl2
          subst ha1; subst ha2
          split at hc
          · rename_i e e' he he'
            cases hn : szOf P e with
            | none => simp [hn] at hc
            | some n =>
              simp [hn] at hc; subst hc
              simp only [stepA] at hs
              split at hs
              · rename_i id off k hd
                split at hs
                · rename_i tt sz1 es sz2 es2 hid hsrc
                  split at hs
                  · rename_i hcond
                    obtain ⟨rfl, c2, c3, c4⟩ := hcond
                    cases hs
                    exact go_cpy d s t u e e' sz1 id off k tt sz2 es es2 hop (elemOf_under he) hn hd hid hsrc c2 c3 c4 hm ht
                  · cases hs
                · cases hs
              · cases hs
          · cases hc
        · cases hc
      | clear =>
        simp only [compOp0] at hc
        unfold compClr at hc
        split at hc
        · rename_i x t hl1 hl2
          have ha1 : args = #[x] := by apply Array.toList_inj.1; simpa using hl1
          have ha2 : ats = #[t] := by apply Array.toList_inj.1; simpa using hl2
          subst ha1; subst ha2
          split at hc
          · rename_i e he
            cases hz : zeroOf P e with
            | none => simp [hz] at hc
            | some z =>
              simp only [hz, Option.bind_some] at hc
              split at hc
              · rename_i hz1
                cases hc
                simp only [stepA] at hs
                split at hs
                · rename_i id off n hx
                  split at hs
                  · rename_i tt sz es hid
                    split at hs
                    · rename_i hcond
                      cases hs
                      exact go_clr x t e z id off n tt sz es hop (elemOf_under he) hz hx hid hcond.1 (List.all_eq_true.1 hz1) hcond.2 hm ht
                    · cases hs
                  · cases hs
                · cases hs
              · cases hc
          · cases hc
        · cases hc
      | append =>
        simp only [compOp0] at hc
        unfold compApp at hc
        split at hc
        · rename_i s x t u hl1 hl2
          have ha1 : args = #[s, x] := by apply Array.toList_inj.1; simpa using hl1
          have ha2 : ats = #[t, u] := by apply Array.toList_inj.1; simpa using hl2
          subst ha1; subst ha2
          split at hc
          · rename_i e he
            have hu0 := elemOf_under he
            split at hc
            · rename_i i hi
              split at hc
              · rename_i z hz
                split at hc
                · rename_i hcond
                  simp only [Bool.and_eq_true, beq_iff_eq, bne_iff_ne] at hcond
                  obtain ⟨hzs, hsz⟩ := hcond
                  split at hc
                  · rename_i htu
                    have htu' : t = u := by simpa using htu
                    subst htu'
                    cases hc
                    simp only [stepA] at hs
                    have hvx := opd_ok ht x
                    split at hs
                    · rename_i id sz2 es2 h1 h2
                      split at hs
                      · rename_i t1 sz1 es hid
                        split at hs
                        · rename_i hcd
                          obtain ⟨rfl, rfl, hsz2, _, hb1, hb2, hsh⟩ := hcd
                          cases hs
                          obtain ⟨news, q1, q2, q3, q4, q5, q6⟩ := src_slice (P := P) h2 hm hvx hsz2 hsh
                          exact go_appG s x t t t1 i z (some id) es es2 (.slice t1) news es2.length hop hu0 hi hz hzs hsz hu0 (.inr ⟨_, rfl⟩) (.inl ⟨id, rfl, h1, hid⟩) q1 q2 q3 q4 rfl q5 q6 hb1 hb2 hO hm ht
                        · cases hs
                      · rename_i t1 sz1 es hid
                        split at hs
                        · rename_i hcd
                          obtain ⟨rfl, rfl, hsz2, _, hb1, hb2, hsh⟩ := hcd
                          cases hs
                          obtain ⟨news, q1, q2, q3, q4, q5, q6⟩ := src_slice (P := P) h2 hm hvx hsz2 hsh
                          exact go_appY s x t t t1 i z id es es2 (.slice t1) news es2.length hop hu0 hi hz hzs hu0 (.inr ⟨_, rfl⟩) h1 hid q1 q2 q3 q4 rfl q5 q6 hb1 hb2 hO hm ht
                        · cases hs
                      · cases hs
                    · rename_i sz2 es2 h1 h2
                      split at hs
                      · rename_i hcd
                        obtain ⟨hsz2, hb1, hb2, hsh⟩ := hcd
                        cases hs
                        obtain ⟨news, q1, q2, q3, q4, q5, q6⟩ := src_slice (P := P) h2 hm hvx hsz2 hsh
                        have := go_appG (O := O) s x t t e i z none [] es2 (.slice e) news es2.length hop hu0 hi hz hzs hsz hu0 (.inr ⟨_, rfl⟩) (.inr ⟨rfl, h1, rfl⟩) q1 q2 q3 q4 rfl q5 q6 (by simpa using hb1) (by simpa using hb2) hO hm ht
                        simpa using this
                      · cases hs
                    · rename_i id off n h1
                      split at hs
                      · rename_i t1 sz1 es sz2 es2 hid h2
                        split at hs
                        · rename_i hcd
                          obtain ⟨rfl, rfl, c1, c2, c3⟩ := hcd
                          cases hs
                          exact go_appW s x t t t1 t1 i id off n t1 sz2 es es2 hop hu0 hi hu0 h1 hid h2 c1 c2 c3 hm ht
                        · cases hs
                      · cases hs
                    · cases hs
                  · split at hc
                    · rename_i hcd2
                      simp only [Bool.and_eq_true] at hcd2
                      obtain ⟨hint, hz1⟩ := hcd2
                      cases hc
                      simp only [stepA] at hs
                      split at hs
                      · rename_i id off n kk h1 h2
                        split at hs
                        · rename_i t1 sz1 es hid
                          split at hs
                          · rename_i hcd
                            obtain ⟨rfl, rfl, c1, c2, c3, c4, c5, c6⟩ := hcd
                            cases hs
                            have huint : ∃ ki, P.underlying u = some (.int ki) := by
                              unfold isInt at hint
                              split at hint
                              · rename_i ki hki; exact ⟨ki, hki⟩
                              · cases hint
                            obtain ⟨ki, huint⟩ := huint
                            exact go_ap0 s x t u t1 ki i z id off n kk es hop hu0 hi hz hzs hsz huint (List.all_eq_true.1 hz1) h1 h2 hid c1 c2 c3 c4 c5 c6 hO hm ht
                          · cases hs
                        · cases hs
                      · cases hs
                    split at hc
                    · rename_i hcd2
                      simp only [Bool.and_eq_true, beq_iff_eq] at hcd2
                      obtain ⟨⟨⟨hstr, hz0⟩, hs1⟩, hby⟩ := hcd2
                      cases hc
                      simp only [stepA] at hs
                      have hvx := opd_ok ht x
                      split at hs
                      · rename_i id y h1 h2
                        split at hs
                        · rename_i t1 sz1 es hid
                          split at hs
                          · rename_i hcd
                            obtain ⟨rfl, rfl, hb1⟩ := hcd
                            cases hs
                            rw [h2] at hvx
                            have hvx' := hvx.of_v
                            obtain ⟨q1, q2, q3, q4⟩ := str_src (P := P) (w := w) y
                            have hustr : P.underlying u = some .string := by
                              unfold isStr at hstr
                              split at hstr
                              · assumption
                              · cases hstr
                            have hlen : (y.data.toList.map fun b => AV.v (.int .u8 b.toNat)).length = y.size := by simp
                            have := go_appG (O := O) s x t u t1 i z (some id) es (y.data.toList.map fun b => AV.v (.int .u8 b.toNat)) .string (y.data.toList.map fun b => Value.int .u8 b.toNat) y.size hop hu0 hi hz hzs hsz hustr (.inl rfl)
                              (.inl ⟨id, rfl, h1, by rw [hs1]; exact hid⟩) (by rw [hvx']; exact q1) (by rw [hvx', hs1]; exact q2) (by rw [hs1]; exact q3) q4 hlen.symm (bytes_av _) (by rw [hs1]; exact bytes_av_len _) (by rw [hlen, hby]; omega) (by rw [hlen]; exact hb1) hO hm ht
                            rw [hs1] at this
                            exact this
                          · cases hs
                        · cases hs
                      · cases hs
                    · cases hc
                · cases hc
              · cases hc
            · cases hc
          · cases hc
        · cases hc
      | min =>
        simp only [compOp0] at hc; cases hc
        simp only [stepA, List.map_map] at hs
        split at hs
        · rename_i y rr hx
          cases hv : minI y rr with
          | none => simp [hv] at hs
          | some v => simp [hv] at hs; obtain ⟨rfl, rfl⟩ := hs; exact go_mnn args ats y rr v hop hx hv hm ht
        · cases hs
      | max =>
        simp only [compOp0] at hc; cases hc
        simp only [stepA, List.map_map] at hs
        split at hs
        · rename_i y rr hx
          cases hv : maxI y rr with
          | none => simp [hv] at hs
          | some v => simp [hv] at hs; obtain ⟨rfl, rfl⟩ := hs; exact go_mxx args ats y rr v hop hx hv hm ht
        · cases hs
      | _ => simp [compOp0] at hc
  | makeMap t r =>
    cases r with
    | some _ => simp [compOp0] at hc
    | none =>
      simp only [compOp0] at hc
      split at hc
      · rename_i k e hu
        cases hc
        simp only [stepA] at hs; cases hs
        exact go_mkm t k e hop hO hm
      · cases hc
  | lookup t x i ok =>
    simp only [compOp0] at hc
    split at hc
    · rename_i k e hu
      split at hc
      · rename_i hk
        cases hz : (P.info? e).bind (·.zero) with
        | none => simp [hz] at hc
        | some z =>
          simp [hz] at hc; subst hc
          simp only [stepA] at hs
          split at hs
          · rename_i id s h1 h2
            split at hs
            · rename_i es hid
              cases hs; exact go_lkp t k e x i ok z s es hop hu (isStr_under hk) hz (.inl ⟨id, h1, hid⟩) h2 hm ht
            · cases hs
          · rename_i s h1 h2
            cases hs; exact go_lkp t k e x i ok z s [] hop hu (isStr_under hk) hz (.inr ⟨h1, rfl⟩) h2 hm ht
          · cases hs
      · cases hc
    · cases hc
  | mapUpdate t x i v =>
    simp only [compOp0] at hc
    split at hc
    · rename_i k e hu
      split at hc
      · rename_i hk
        cases hc
        simp only [stepA] at hs
        split at hs
        · rename_i id s h1 h2
          split at hs
          · rename_i es hid
            cases hs; exact go_mup t k e x i v s id es hop hu (isStr_under hk) h1 hid h2 hm ht
          · cases hs
        · cases hs
      · cases hc
    · cases hc
  | _ => simp [compOp0] at hc

/-! ### Slices from an element on -/
theorem run_slo {t e : TypeId} {x lo : Operand} {n l len cap : Nat} {base : Option Addr} (ho : o.op = .slice t x (some lo) none none) (hu : P.underlying t = some (.slice e)) (hn : szOf P e = some n) (hx : a.eval x = .slice base len cap)
    (hl : boundOf ts 0 (some (compOpd lo)) = some l) (h1 : l ≤ len) (h2 : len ≤ cap) (ht : TR F w B ts a) :
    (execOp a.eval o).run P w = .ok (.value (.slice (if cap = l then base else base.map (·.add (l * n))) (len - l) (cap - l))) w := by
  have hb := bounds_run (P := P) (isS := true) (cap := cap) (w := w) (lo := some lo) (hi := none) ht hl rfl h1 (Nat.le_refl _) h2
  simp only [Option.map_none] at hb
  simp only [execOp, ho, Instr.sliceAt, Instr.slice, Sem.run_bind, run_under hu, Result.andThen_ok, hx]
  simp only [Option.map_none, hb, Result.andThen_ok, run_size hn, Sem.run_pure]
theorem go_sloF (t e : TypeId) (x lo : Operand) (n sz : Nat) (es : List AV) (l : Nat) (ho : o.op = .slice t x (some lo) none none) (hu : P.underlying t = some (.slice e)) (hn : szOf P e = some n)
    (hx : ((compOpd x).ev ts).frz mem = .fsl sz es) (hl : boundOf ts 0 (some (compOpd lo)) = some l) (h1 : l ≤ es.length) (hsz : sz = n ∨ es = [])
    (hm : MR O F w B mem) (ht : TR F w B ts a) : Goes P O F w B o a (.ret (.fsl sz (es.drop l))) (freezeIds ((compOpd x).ev ts).slices mem) := by
  have := go_slc t e x (some lo) none n sz es l es.length ho hu hn hx hl rfl h1 (Nat.le_refl _) hsz hm ht
  rwa [List.take_of_length_le (by simp)] at this
/-- The rest of a block goes on under a new number. -/
theorem push_wrr {id t sz b off cap n : Nat} {es : List AV} {cur : Array Value} (hm : MR O F w B mem) (hown : ownB mem B id = some b) (hsz : 0 < sz) (hn : n = es.length) (hnc : n ≤ cap) (hcm : cap ≤ maxLen)
    (hs : ∀ e ∈ es, e.cells.length = sz) (hb : w.heap[b]? = some (.cells cur t (0, 0))) (hoff : off + cap * sz ≤ cur.size) (hc : CR F w [] (AV.cellsAll es) ((cur.toList.drop off).take (n * sz))) :
    MR O F w (B ++ [.wrr sz b off n cap]) (mem.set id .gone ++ [.wrr t sz es]) ∧ VR F w (B ++ [.wrr sz b off n cap]) (.osl mem.length) (.slice (some ⟨b, off, none⟩) n cap) := by
  obtain ⟨g1, g2, g3⟩ := hm.own id b hown
  refine ⟨(hm.forget id).push (Nat.le_refl _) (fun _ _ => rfl) ⟨rfl, hsz, hn, hnc, hcm, hs, cur, _, hb, hoff, rfl, hc⟩ (fun _ c hcb => ?_), .oslW (sz := sz) (by rw [← hm.len]; simp)⟩
  cases hcb
  exact ⟨fun j hj => by obtain ⟨g4, g5⟩ := ownB_forget hj; exact g4 (hm.sep j id b g5 hown), g2, g3, g1⟩
theorem go_sloO (t e : TypeId) (x lo : Operand) (tt sz id : Nat) (es : List AV) (l : Nat) (ho : o.op = .slice t x (some lo) none none) (hu : P.underlying t = some (.slice e)) (hn : szOf P e = some sz)
    (hx : (compOpd x).ev ts = .osl id) (hid : mem[id]? = some (.arr tt sz es)) (hl : boundOf ts 0 (some (compOpd lo)) = some l) (h1 : l ≤ es.length) (hne : es ≠ [])
    (hm : MR O F w B mem) (ht : TR F w B ts a) : Goes P O F w B o a (.ret (.osl mem.length)) (mem.set id .gone ++ [.wrr tt sz (es.drop l)]) := by
  have hv := opd_ok ht x
  rw [hx] at hv
  obtain ⟨q1, q2, ⟨xs, q3, q4⟩, q5⟩ := own_inv hid hm hv
  rcases q3.2 with ⟨_, h9⟩ | ⟨g, cap, cur, ex, _, hblk, hnc, hcm, hcs, htk⟩
  · exact absurd (List.eq_nil_of_length_eq_zero h9) hne
  · have key := run_slo ho hu hn ex hl h1 hnc ht
    have hown := q5 g (by rw [ex]; rfl)
    have hcr : CR F w [] (AV.cellsAll (es.drop l)) (xs.drop (l * sz)) := by rw [cellsAll_drop _ _ q2]; exact q4.drop _
    by_cases hcl : cap = l
    · rw [if_pos hcl] at key
      have he : es.length - l = 0 := by omega
      have hd : es.drop l = [] := List.drop_eq_nil_of_le (by omega)
      obtain ⟨m1, m2⟩ := push_wrr (off := 0) (cap := cap - l) (n := es.length - l) (es := es.drop l) hm hown q1 (by simp) (by omega) (by omega) (by rw [hd]; simp) hblk (by rw [hcl]; simp) (by rw [he, hd]; simp [AV.cellsAll]; exact .nil)
      exact .value key m1 ⟨fun _ h => h, (ext_append F w B _).pl, fun _ _ => rfl⟩ (.refl O w) (fun _ h => .inl h) m2
    · rw [if_neg hcl] at key
      have hoff : l * sz + (cap - l) * sz = cap * sz := by rw [← Nat.add_mul]; congr 1; omega
      obtain ⟨m1, m2⟩ := push_wrr (off := l * sz) (cap := cap - l) (n := es.length - l) (es := es.drop l) hm hown q1 (by simp) (by omega) (by omega) (fun e he => q2 e (List.mem_of_mem_drop he)) hblk (by rw [hoff, hcs]; exact Nat.le_refl _)
        (by rw [Nat.sub_mul, ← List.drop_take, htk]; exact hcr)
      simp only [Option.map_some, add_plain, Nat.zero_add] at key
      exact .value key m1 ⟨fun _ h => h, (ext_append F w B _).pl, fun _ _ => rfl⟩ (.refl O w) (fun _ h => .inl h) m2
theorem go_sloY (t e : TypeId) (x lo : Operand) (tt sz id : Nat) (es : List AV) (l : Nat) (ho : o.op = .slice t x (some lo) none none) (hu : P.underlying t = some (.slice e)) (hn : szOf P e = some sz)
    (hx : (compOpd x).ev ts = .osl id) (hid : mem[id]? = some (.wrr tt sz es)) (hl : boundOf ts 0 (some (compOpd lo)) = some l) (h1 : l ≤ es.length)
    (hm : MR O F w B mem) (ht : TR F w B ts a) : Goes P O F w B o a (.ret (.osl mem.length)) (mem.set id .gone ++ [.wrr tt sz (es.drop l)]) := by
  have hv := opd_ok ht x
  rw [hx] at hv
  obtain ⟨b, off, cap, cur, xs, ex, q1, q2, q3, q4, q5, q6, q7, q8, q9, q10⟩ := wrr_inv hid hm hv
  have key := run_slo ho hu hn ex hl h1 q2 ht
  have hcr : CR F w [] (AV.cellsAll (es.drop l)) (xs.drop (l * sz)) := by rw [cellsAll_drop _ _ q4]; exact q8.drop _
  by_cases hcl : cap = l
  · rw [if_pos hcl] at key
    have he : es.length - l = 0 := by omega
    have hd : es.drop l = [] := List.drop_eq_nil_of_le (by omega)
    obtain ⟨m1, m2⟩ := push_wrr (off := off) (cap := cap - l) (n := es.length - l) (es := es.drop l) hm q9 q1 (by simp) (by omega) (by omega) (by rw [hd]; simp) q5 (by rw [hcl, Nat.sub_self, Nat.zero_mul]; omega) (by rw [he, hd]; simp [AV.cellsAll]; exact .nil)
    exact .value key m1 ⟨fun _ h => h, (ext_append F w B _).pl, fun _ _ => rfl⟩ (.refl O w) (fun _ h => .inl h) m2
  · rw [if_neg hcl] at key
    have hoff : l * sz + (cap - l) * sz = cap * sz := by rw [← Nat.add_mul]; congr 1; omega
    obtain ⟨m1, m2⟩ := push_wrr (off := off + l * sz) (cap := cap - l) (n := es.length - l) (es := es.drop l) hm q9 q1 (by simp) (by omega) (by omega) (fun e he => q4 e (List.mem_of_mem_drop he)) q5 (by omega)
      (by rw [← List.drop_drop, Nat.sub_mul, ← List.drop_take, q7]; exact hcr)
    simp only [Option.map_some, add_plain] at key
    exact .value key m1 ⟨fun _ h => h, (ext_append F w B _).pl, fun _ _ => rfl⟩ (.refl O w) (fun _ h => .inl h) m2
theorem cr_replicate (v : Value) : ∀ n : Nat, CR F w B (AV.cellsAll (List.replicate n (.v v))) (List.replicate n v)
  | 0 => .nil
  | n + 1 => by
    rw [List.replicate_succ, List.replicate_succ]
    exact .cons (.v v) (cr_replicate v n)
theorem madeCells_one {z : Array Value} {v : Value} (h : z.toList = [v]) (n : Nat) : (madeCells z (n * 1)).toList = List.replicate n v := by
  have hz : z = #[v] := by apply Array.toList_inj.1; simpa using h
  subst hz
  apply List.ext_getElem
  · simp [madeCells]
  · intro i h1 h2
    have hi : i % (#[v] : Array Value).size = 0 := Nat.mod_one i
    simp only [madeCells, Array.toList_map, Array.toList_range, List.getElem_map, List.getElem_range, List.getElem_replicate, hi]
    rfl
theorem go_mks (t e : TypeId) (l c : Operand) (i : TypeInfo) (z v : Value) (n : Int) (ho : o.op = .makeSlice t l c) (hu : P.underlying t = some (.slice e)) (hi : P.info? e = some i) (hz : i.zero = some z) (hzc : z.cells.toList = [v]) (hs : i.size = 1)
    (hl : intOf? ((compOpd l).ev ts) = some n) (hc : intOf? ((compOpd c).ev ts) = some n) (h0 : 0 ≤ n) (hb : i.bytes * n.toNat ≤ 281474976710656) (h63 : n.toNat ≤ 140737488355328) (hO : ∀ b, w.heap.size ≤ b → O b) (hm : MR O F w B mem) (ht : TR F w B ts a) :
    Goes P O F w B o a (.ret (.osl mem.length)) (mem ++ [.arr e 1 (List.replicate n.toNat (.v v))]) := by
  obtain ⟨kl, el⟩ := int_of ht hl
  obtain ⟨kc, ec⟩ := int_of ht hc
  obtain ⟨k, rfl⟩ := Int.eq_ofNat_of_zero_le h0
  simp only [Int.toNat_natCast] at hb h63 ⊢
  obtain ⟨w', r1, r2, r3⟩ := run_make_full (P := P) w 0 t e i z 1 hu hi hz hs kl kc k hb (by simp only [maxLen]; omega) (Nat.zero_le _)
  rw [madeCells_one hzc] at r2
  obtain ⟨lc, m1, m2, m3, m4⟩ := own_append (O := O) (mem := mem) (row := none) (es := []) (es2 := List.replicate k (.v v)) (n := 0) (m := k) (xs := []) (news := List.replicate k v) hm hO Nat.one_pos (by simpa using r2) r3 rfl (by simp) .nil (cr_replicate v k)
    (fun x hx => by have := List.eq_of_mem_replicate (by simpa using hx : x ∈ List.replicate k (AV.v v)); rw [this]; rfl) (fun b hb => by cases hb) (fun b hb => by cases hb; exact .inr (Nat.le_refl _))
  refine .value (w' := w') ?_ (by simpa using m1) m2 m3 (fun _ h => .inl h) m4
  simp only [execOp, ho, el, ec, Sem.run_bind, r1, Result.andThen_ok, Sem.run_pure]
theorem cellsAll_ones : ∀ es : List AV, es.all AV.one = true → AV.cellsAll es = es ∧ ∀ e ∈ es, e.cells.length = 1
  | [], _ => ⟨rfl, by simp⟩
  | e :: es, h => by
    simp only [List.all_cons, Bool.and_eq_true] at h
    obtain ⟨h1, h2⟩ := cellsAll_ones es h.2
    have hc : e.cells = [e] := by
      have := h.1
      cases e <;> first | rfl | (simp [AV.one] at this)
    refine ⟨by simp only [AV.cellsAll, hc, h1, List.singleton_append], fun x hx => ?_⟩
    rcases List.mem_cons.1 hx with rfl | hx
    · rw [hc]; rfl
    · exact h2 x hx
theorem go_sla (t e : TypeId) (x : Operand) (n q : Nat) (el : AV) (ho : o.op = .slice t x none none none) (hu : P.underlying t = some (.array n e)) (hs : szOf P e = some 1)
    (hx : (compOpd x).ev ts = .fptr el q) (h0 : 0 < n) (hl : q + n ≤ el.cells.length) (h1 : ((el.cells.drop q).take n).all AV.one = true)
    (hm : MR O F w B mem) (ht : TR F w B ts a) : Goes P O F w B o a (.ret (.fsl 1 ((el.cells.drop q).take n))) mem := by
  have hv := opd_ok ht x
  rw [hx] at hv
  generalize hy : a.eval x = y at hv
  cases hv with
  | @fptr _ _ xs b a0 _ h hF hc =>
    obtain ⟨q1, q2⟩ := cellsAll_ones _ h1
    have hlen : ((el.cells.drop q).take n).length = n := by simp; omega
    have hf : VR F w B (.fsl 1 ((el.cells.drop q).take n)) (.slice (some ⟨b, a0 + q, none⟩) ((el.cells.drop q).take n).length n) := by
      refine .fsl (xs := (xs.drop q).take n) b (a0 + q) n (by rw [q1]; exact (h.drop q).take n) q2 hF (fun j z hj => ?_) (by rw [hlen]; exact Nat.le_refl _)
      rw [List.getElem?_take] at hj
      split at hj
      · rw [List.getElem?_drop] at hj
        rw [Nat.add_assoc]; exact hc _ _ hj
      · cases hj
    rw [hlen] at hf
    refine .pure (x := .slice (some ⟨b, a0 + q, none⟩) n n) ?_ hm hf
    have hn : ¬ n = 0 := by omega
    simp [execOp, ho, hy, Instr.sliceAt, Instr.sliceBounds, run_under hu, Instr.sureAddr, run_size hs, hn, add_plain]
/-! ### What package strings' Builder does -/
theorem tvar_at {id b0 : Nat} {t : TypeId} {cs : List AV} {q : Nat} {x : Value} (hm : MR O F w B mem) (hi : mem[id]? = some (.tvar t cs)) (hv : VR F w B (.ptr id 0 q) x) :
    ∃ (b : Nat) (xs : List Value), x = .pointer (some ⟨b, q, none⟩) ∧ B[id]? = some (.var b) ∧ w.heap[b]? = some (.cells xs.toArray t (0, 0)) ∧ xs.length = cs.length := by
  have hlt := (List.getElem?_eq_some_iff.1 hi).1
  obtain ⟨l, hl⟩ : ∃ l, B[id]? = some l := ⟨_, List.getElem?_eq_getElem (by rw [hm.len]; exact hlt)⟩
  have hbr := hm.br id _ l hi hl
  match l, hbr, hl with
  | .var b, ⟨xs, h1, h2⟩, hl =>
    refine ⟨b, xs, ?_, hl, h1, h2.length⟩
    cases hv with
    | ptrV h => rw [hl] at h; cases h; rfl
    | ptrA h => rw [hl] at h; cases h
    | ptrW h => rw [hl] at h; cases h
theorem go_alc (t : TypeId) (z : List Value) (ho : o.op = .alloc t) (hz : zeroOf P t = some z) (hO : ∀ b, w.heap.size ≤ b → O b) (hm : MR O F w B mem) :
    Goes P O F w B o a (.ret (.ptr mem.length 0 0)) (mem ++ [.tvar t (z.map .v)]) := by
  obtain ⟨v, hv, hvz⟩ := zero_run (P := P) (w := w) hz
  have hc := CR.lits (F := F) (w := w) (B := B) z
  have e : Ext F F w (w.alloc (.cells z.toArray t)) B (B ++ [.var w.heap.size]) :=
    ⟨fun _ h => h, (ext_append F w B _).pl, fun b hb => alloc_old w _ b (hm.fr b hb)⟩
  have m1 : MR O F (w.alloc (.cells z.toArray t)) (B ++ [.var w.heap.size]) (mem ++ [.tvar t (z.map .v)]) :=
    hm.push (by simp) (fun b hb => alloc_old w _ b (hm.old hb)) ⟨z, alloc_new w _, hc.mono e⟩ (fun _ b hb => by cases hb; exact ⟨(hm.fresh (Nat.le_refl _)).1, (hm.fresh (Nat.le_refl _)).2, by simp, hO _ (Nat.le_refl _)⟩)
  refine .value (x := .pointer (some ⟨w.heap.size, 0, none⟩)) (w' := w.alloc (.cells z.toArray t)) ?_ m1 e (ev_alloc hO _) (fun _ h => .inl h) (.ptrV (by rw [← hm.len]; simp))
  simp only [execOp, ho, Instr.alloc, Sem.run_bind, hv, Result.andThen_ok, newVar, newRow, run_newObj, Sem.run_pure, World.alloc_eq, ← hvz]
theorem go_cup (s d t' : TypeId) (x : Operand) (j : TypeInfo) (id q : Nat) (t : TypeId) (cs : List AV) (ho : o.op = .convert s d x) (hs : P.underlying s = some (.pointer t')) (hd : P.underlying d = some .unsafePointer) (hj : P.info? t' = some j) (hn : j.size ≠ 0)
    (hx : (compOpd x).ev ts = .ptr id 0 q) (hi : mem[id]? = some (.tvar t cs)) (hq : q < cs.length) (hm : MR O F w B mem) (ht : TR F w B ts a) : Goes P O F w B o a (.ret (.ptr id 0 q)) mem := by
  have hv := opd_ok ht x
  rw [hx] at hv
  obtain ⟨b, xs, ex, hB, hb, hl⟩ := tvar_at (b0 := 0) hm hi hv
  have hrun := Lib.run_to_unsafe (P := P) (src := s) (dst := d) w ⟨b, q, none⟩ hs hd hj hn (e := t) (cells := xs.length) (by simp [World.shape?, hb]) (by rw [hl]; exact hq)
  refine .pure (x := .pointer (some ⟨b, q, none⟩)) ?_ hm (.ptrV hB)
  simp only [execOp, ho, ex, Sem.run_bind, hrun, Result.andThen_ok, Sem.run_pure]
theorem go_cpu (s d u : TypeId) (x : Operand) (j : TypeInfo) (id : Nat) (cs : List AV) (ho : o.op = .convert s d x) (hs : P.underlying s = some .unsafePointer) (hd : P.underlying d = some (.pointer u)) (hj : P.info? u = some j)
    (hl : liesAt P P.depth u (P.cellsOf u / P.cellsOf u) 0 u 1 = true) (hx : (compOpd x).ev ts = .ptr id 0 0) (hi : mem[id]? = some (.tvar u cs)) (hq : cs.length = P.cellsOf u) (hm : MR O F w B mem) (ht : TR F w B ts a) : Goes P O F w B o a (.ret (.ptr id 0 0)) mem := by
  have hv := opd_ok ht x
  rw [hx] at hv
  obtain ⟨b, xs, ex, hB, hb, hlen⟩ := tvar_at (b0 := 0) hm hi hv
  have hrun := Lib.run_from_unsafe (P := P) (src := s) (dst := d) w ⟨b, 0, none⟩ hs hd hj (e := u) (cells := xs.length) (by simp [World.shape?, hb]) (by rw [hlen, hq]; exact hl)
  refine .pure (x := .pointer (some ⟨b, 0, none⟩)) ?_ hm (.ptrV hB)
  simp only [execOp, ho, ex, Sem.run_bind, hrun, Result.andThen_ok, Sem.run_pure]
theorem ptr_same {i p q : Nat} {x y : Value} (h : VR F w B (.ptr i p q) x) (k : VR F w B (.ptr i p q) y) : x = y ∧ ∃ ad, x = .pointer (some ad) := by
  cases h with
  | ptrV h => cases k with
    | ptrV k => rw [h] at k; cases k; exact ⟨rfl, _, rfl⟩
    | ptrA k => rw [h] at k; cases k
    | ptrW k => rw [h] at k; cases k
  | ptrA h => cases k with
    | ptrV k => rw [h] at k; cases k
    | ptrA k => rw [h] at k; cases k; exact ⟨rfl, _, rfl⟩
    | ptrW k => rw [h] at k; cases k
  | ptrW h => cases k with
    | ptrV k => rw [h] at k; cases k
    | ptrA k => rw [h] at k; cases k
    | ptrW k => rw [h] at k; cases k; exact ⟨rfl, _, rfl⟩
theorem run_eql_ptr_same {tp te : TypeId} {j : TypeInfo} (ad : Addr) (hp : P.underlying tp = some (.pointer te)) (hte : P.info? te = some j) :
    (binOp .eql tp (.pointer (some ad)) (.pointer (some ad))).run P w = .ok (.bool true) w := by
  have h : ∀ d : Nat, (Op.equalIn (d + 1) tp (.pointer (some ad)) (.pointer (some ad))).run P w = .ok true w := fun d => by
    simp [Op.equalIn, run_underlying hp, sizeOf, typeInfo, hte, run_sameAddr_same]
  simp only [binOp]
  simp [Op.equal, Op.maxDepth, h 9999]
theorem run_guardP (op : BinOp) (t : TypeId) (x y : Operand) (p q : Option Addr) : (eqGuard op t x y (.pointer p) (.pointer q)).run P w = .ok () w := by
  unfold eqGuard
  cases op <;> rfl
theorem go_eqp (neg : Bool) (t yt e : TypeId) (x y : Operand) (j : TypeInfo) (i p q : Nat) (ho : o.op = .binOp (if neg then .neq else .eql) t x y yt) (hp : P.underlying t = some (.pointer e)) (hj : P.info? e = some j)
    (hx : (compOpd x).ev ts = .ptr i p q) (hy : (compOpd y).ev ts = .ptr i p q) (hm : MR O F w B mem) (ht : TR F w B ts a) : Goes P O F w B o a (.ret (.v (.bool (!neg)))) mem := by
  have hv := opd_ok ht x
  have hw := opd_ok ht y
  rw [hx] at hv
  rw [hy] at hw
  obtain ⟨exy, ad, ead⟩ := ptr_same hv hw
  rw [exy] at ead
  refine .pure (x := .bool (!neg)) ?_ hm (.v _)
  cases neg with
  | false =>
    have hrun := run_eql_ptr_same (P := P) (w := w) ad hp hj
    simp only [execOp, ho, exy, ead, Sem.run_bind, Bool.false_eq_true, if_false, run_guardP, hrun, Result.andThen_ok, Sem.run_pure, Bool.not_false]
  | true =>
    have hrun := Lib.run_neq_ptr_same (P := P) w ad hp hj
    simp only [execOp, ho, exy, ead, Sem.run_bind, if_true, run_guardP, hrun, Result.andThen_ok, Sem.run_pure, Bool.not_true]

theorem go_usd (args : Array Operand) (ats : Array TypeId) (x : Operand) (id t sz : Nat) (e0 : AV) (es : List AV) (ho : o.op = .call { callee := .builtin .unsafeSliceData, args := args, argTypes := ats }) (ha : args = #[x])
    (hx : (compOpd x).ev ts = .osl id) (hi : mem[id]? = some (.arr t sz (e0 :: es))) (hm : MR O F w B mem) (ht : TR F w B ts a) : Goes P O F w B o a (.ret (.ptr id 0 0)) mem := by
  have hv := opd_ok ht x
  rw [hx] at hv
  have hlt := (List.getElem?_eq_some_iff.1 hi).1
  obtain ⟨l, hl⟩ : ∃ l, B[id]? = some l := ⟨_, List.getElem?_eq_getElem (by rw [hm.len]; exact hlt)⟩
  have hbr := hm.br id _ l hi hl
  match l, hbr, hl with
  | .arr sz' g n cap, ⟨h1, h2, h3, h4, xs, h5, h6⟩, hl =>
    subst h1
    have ex : a.eval x = head g n cap := by
      generalize a.eval x = y at hv
      cases hv with
      | osl h => rw [hl] at h; cases h; rfl
      | omap h => rw [hl] at h; cases h
      | oslW h => rw [hl] at h; cases h
    simp only [List.length_cons] at h3
    rcases h5.2 with ⟨_, h9⟩ | ⟨g', cap', cur, h9, _, hblk, hnc, hcm, hcs, htk⟩
    · omega
    · cases g with
      | none => simp [head] at h9
      | some gb =>
        simp only [head, Option.map_some, Value.slice.injEq, Option.some.injEq, Addr.mk.injEq, and_true, true_and] at h9
        obtain ⟨rfl, rfl⟩ := h9
        have hrun := Lib.run_unsafeSliceData_row (P := P) w ats o.type ⟨gb, 0, none⟩ n cap (by omega)
        have hp : VR F w B (.ptr id 0 0) (.pointer (some ⟨gb, 0 * sz + 0, none⟩)) := .ptrA hl
        rw [Nat.zero_mul] at hp
        refine .pure (x := .pointer (some ⟨gb, 0, none⟩)) ?_ hm hp
        simp only [head, Option.map_some] at ex
        subst ha
        simp [execOp, ho, resolve, invoke, builtin, ex, hrun]
theorem bytes_in {F : Nat → Prop} {w : World} {B : List Loc} : ∀ {es : List AV} {l : List UInt8} {xs : List Value}, bytesOf es = some l → bytesIn es = true → CR F w B es xs → xs = l.map fun b => Value.int .u8 b.toNat
  | [], l, xs, h, _, hc => by
    simp [bytesOf] at h
    subst h
    cases hc; rfl
  | e :: es, l, xs, h, hi, hc => by
    unfold bytesOf at h
    split at h
    · rename_i heq; cases heq
    · rename_i n r heq
      cases heq
      cases hb : bytesOf es with
      | none => simp [hb] at h
      | some l' =>
        simp [hb] at h
        subst h
        simp only [bytesIn, Bool.and_eq_true, decide_eq_true_eq] at hi
        cases hc with
        | cons h1 h2 =>
          rw [h1.of_v, bytes_in hb hi.2 h2]
          have : ((UInt8.ofNat n.toNat).toNat : Int) = n := by
            rw [UInt8.toNat_ofNat']
            have := hi.1.1; have := hi.1.2
            omega
          simp only [List.map_cons, this]
    · cases h
theorem go_ust (args : Array Operand) (ats : Array TypeId) (p n : Operand) (pt it e id : Nat) (k : Int) (es : List AV) (l : List UInt8) (ho : o.op = .call { callee := .builtin .unsafeString, args := args, argTypes := ats }) (ha : args = #[p, n]) (hat : ats = #[pt, it])
    (hp : P.underlying pt = some (.pointer e)) (hc : P.cellsOf e = 1) (hx : (compOpd p).ev ts = .ptr id 0 0) (hn : (compOpd n).ev ts = .v (.int .i64 k)) (hi : mem[id]? = some (.arr e 1 es)) (hk : k = es.length) (hne : es ≠ []) (hin : bytesIn es = true) (hb : bytesOf es = some l)
    (hm : MR O F w B mem) (ht : TR F w B ts a) : Goes P O F w B o a (.ret (.v (.string ⟨l.toArray⟩))) (mem.set id .gone) := by
  have hv := opd_ok ht p
  rw [hx] at hv
  have hvn := opd_ok ht n
  rw [hn] at hvn
  have en := hvn.of_v
  have hlt := (List.getElem?_eq_some_iff.1 hi).1
  obtain ⟨lc, hl⟩ : ∃ l, B[id]? = some l := ⟨_, List.getElem?_eq_getElem (by rw [hm.len]; exact hlt)⟩
  have hbr := hm.br id _ lc hi hl
  match lc, hbr, hl with
  | .arr sz' g m cap, ⟨h1, h2, h3, h4, xs, h5, h6⟩, hl =>
    subst h1
    have hes0 : 0 < es.length := List.length_pos_iff.2 hne
    rcases h5.2 with ⟨_, h9⟩ | ⟨g', cap', cur, h9, _, hblk, hnc, hcm, hcs, htk⟩
    · omega
    · cases g with
      | none => simp [head] at h9
      | some gb =>
        simp only [head, Option.map_some, Value.slice.injEq, Option.some.injEq, Addr.mk.injEq, and_true, true_and] at h9
        obtain ⟨rfl, rfl⟩ := h9
        have ex : a.eval p = .pointer (some ⟨gb, 0, none⟩) := by
          generalize a.eval p = y at hv
          cases hv with
          | ptrV h => rw [hl] at h; cases h
          | ptrA h => rw [hl] at h; cases h; simp
          | ptrW h => rw [hl] at h; cases h
        have hown := hm.own id gb (ownB_mk hi hl rfl rfl)
        rw [cellsAll_one hb] at h6
        have hxs := bytes_in hb hin h6
        have hll : l.length = es.length := by
          have := h6.length
          rw [hxs] at this
          simpa using this
        have hcell : ∀ j x, l[j]? = some x → w.cell? ((⟨gb, 0, none⟩ : Addr).add j) = some (.int .u8 x.toNat) := by
          intro j x hj
          have hjl : j < l.length := (List.getElem?_eq_some_iff.1 hj).1
          have h7 : xs[j]? = some (.int .u8 x.toNat) := by rw [hxs, List.getElem?_map, hj]; rfl
          rw [← htk, List.getElem?_take, if_pos (by omega)] at h7
          rw [add_plain]
          simp only [World.cell?, hblk, Nat.zero_add]
          simpa using h7
        have hrun := Lib.run_unsafeString_row (P := P) w pt it o.type e hp hc gb cur.size (by simp [World.shape?, hblk]) l (by intro h0; rw [h0] at hll; simp at hll; omega) (by rw [hll, hcs]; omega) (by simp only [maxLen] at hcm; omega) hcell
        have hln : l.length ≠ 0 := by omega
        have hsz : (w.freeze ⟨gb, 0, none⟩ l.length).heap.size = w.heap.size := by simp [World.freeze, hln]
        have hoth : ∀ c, c ≠ gb → (w.freeze ⟨gb, 0, none⟩ l.length).heap[c]? = w.heap[c]? := fun c hcb => by
          simp [World.freeze, hln, Array.getElem?_modify, Ne.symm hcb]
        have m0 := hm.forget id
        have m1 : MR O F (w.freeze ⟨gb, 0, none⟩ l.length) B (mem.set id .gone) := m0.go (by rw [hsz]; exact Nat.le_refl _) fun c hcc => by
          refine hoth c fun ecb => ?_
          subst ecb
          rcases hcc with hF | ⟨i, hi2⟩
          · exact hown.2.1 hF
          · obtain ⟨k2, l2, q1, q2, q3, q4⟩ := ownB_some hi2
            by_cases hij : id = i
            · subst hij
              rw [List.getElem?_set_self (by exact hlt)] at q1
              cases q1
              cases q3
            · rw [List.getElem?_set_ne hij] at q1
              exact hij (hm.sep id i c (ownB_mk hi hl rfl rfl) (ownB_mk q1 q2 q3 q4))
        refine .value (x := .string ⟨l.toArray⟩) (w' := w.freeze ⟨gb, 0, none⟩ l.length) ?_ m1 ⟨fun _ h => h, fun _ _ h => h, fun b hF => hoth b fun e => hown.2.1 (e ▸ hF)⟩
          ⟨by simp [World.freeze, hln], by simp [World.freeze, hln], by simp [World.freeze, hln], by rw [hsz]; exact Nat.le_refl _, fun c _ hO => hoth c fun e => hO (e ▸ hown.1)⟩ (fun _ h => .inl h) (.v _)
        subst ha hat
        rw [hk, ← hll] at en
        simp [execOp, ho, resolve, invoke, builtin, ex, en, hrun]
theorem step_soundB (Γ : Env) {ao : AOp} {r : Res} (hc : compOpB P o.op = some ao) (hs : stepA Γ ts mem ao = some (r, mem'))
    (hO : ∀ b, w.heap.size ≤ b → O b) (hm : MR O F w B mem) (ht : TR F w B ts a) : Goes P O F w B o a r mem' := by
  unfold compOpB at hc
  split at hc
  · rename_i t hop
    split at hc
    · cases hz : zeroOf P t with
      | none => rw [hz] at hc; cases hc
      | some z =>
        rw [hz] at hc
        cases hc
        simp only [stepA] at hs
        cases hs
        exact go_alc t z hop hz hO hm
    · cases hc
  · rename_i t x lo hop
    split at hc
    · rename_i e hu
      cases hn : szOf P e with
      | none => rw [hn] at hc; cases hc
      | some n =>
        rw [hn] at hc
        cases hc
        simp only [stepA] at hs
        split at hs
        · rename_i l hl
          split at hs
          · rename_i id hx
            split at hs
            · rename_i tt sz es hid
              split at hs
              · rename_i hq
                obtain ⟨h1, h2, rfl⟩ := hq
                cases hs
                exact go_sloO t e x lo tt sz id es l hop hu hn hx hid hl h1 h2 hm ht
              · cases hs
            · rename_i tt sz es hid
              split at hs
              · rename_i hq
                obtain ⟨h1, rfl⟩ := hq
                cases hs
                exact go_sloY t e x lo tt sz id es l hop hu hn hx hid hl h1 hm ht
              · cases hs
            · rename_i sz es hid
              split at hs
              · rename_i hq
                cases hs
                have := go_sloF t e x lo n sz es l hop hu hn (by rw [hx]; simp [AV.frz, hid]) hl hq.1 hq.2 hm ht
                rwa [hx] at this
              · cases hs
            · cases hs
          · rename_i id off k hx
            split at hs
            · rename_i tt sz es hid
              split at hs
              · rename_i hq
                obtain ⟨h1, h2, rfl⟩ := hq
                cases hs
                exact go_slcW t e x (some lo) none sz id off k tt es l k hop hu hn hx hid hl rfl h1 h2 hm ht
              · cases hs
            · cases hs
          · rename_i sz es hx
            split at hs
            · rename_i hq
              cases hs
              have := go_sloF t e x lo n sz es l hop hu hn (by rw [hx]; simp [AV.frz]) hl hq.1 hq.2 hm ht
              rwa [hx] at this
            · cases hs
          · rename_i hx
            split at hs
            · rename_i hq
              subst hq
              cases hs
              have := go_sloF t e x lo n 0 [] 0 hop hu hn (by rw [hx]; simp [AV.frz]) hl (Nat.le_refl _) (.inr rfl) hm ht
              rwa [hx] at this
            · cases hs
          · cases hs
        · cases hs
    · cases hc
  · rename_i t l c hop
    split at hc
    · rename_i e he
      split at hc
      · rename_i i hi
        split at hc
        · rename_i z hz
          split at hc
          · rename_i v hzc
            split at hc
            · rename_i hsz
              cases hc
              simp only [stepA] at hs
              split at hs
              · rename_i n m hl hcc
                split at hs
                · rename_i hq
                  obtain ⟨rfl, h0, hb, h63, _⟩ := hq
                  cases hs
                  exact go_mks t e l c i z v n hop (elemOf_under he) hi hz hzc hsz hl hcc h0 hb h63 hO hm ht
                · cases hs
              · cases hs
            · cases hc
          · cases hc
        · cases hc
      · cases hc
    · cases hc
  · rename_i t x hop
    split at hc
    · rename_i n e hu
      split at hc
      · rename_i hs1
        cases hc
        simp only [stepA] at hs
        split at hs
        · rename_i el q hx
          split at hs
          · rename_i hq
            cases hs
            exact go_sla t e x n q el hop hu hs1 hx hq.1 hq.2.1 hq.2.2 hm ht
          · cases hs
        · cases hs
      · cases hc
    · cases hc
  · rename_i s d x hop
    split at hc
    · rename_i t' h1 h2
      split at hc
      · rename_i j hj
        split at hc
        · rename_i hn
          cases hc
          simp only [stepA] at hs
          split at hs
          · rename_i id q hx
            split at hs
            · rename_i t cs hi
              split at hs
              · rename_i hq
                cases hs
                exact go_cup s d t' x j id q t cs hop h1 h2 hj hn hx hi hq hm ht
              · cases hs
            · cases hs
          · cases hs
        · cases hc
      · cases hc
    · rename_i u h1 h2
      split at hc
      · rename_i hcnd
        cases hc
        simp only [stepA] at hs
        split at hs
        · rename_i id hx
          split at hs
          · rename_i t cs hi
            split at hs
            · rename_i hq
              cases hs
              obtain ⟨rfl, hq⟩ := hq
              obtain ⟨j, hj⟩ := Option.isSome_iff_exists.1 hcnd.1
              exact go_cpu s d t x j id cs hop h1 h2 hj hcnd.2 hx hi hq hm ht
            · cases hs
          · cases hs
        · cases hs
      · cases hc
    · cases hc
  · rename_i op t x y yt hop
    split at hc
    · rename_i e h0 h1
      split at hc
      · rename_i hj
        obtain ⟨j, hj⟩ := Option.isSome_iff_exists.1 hj
        split at hc
        · cases hc
          simp only [stepA] at hs
          split at hs
          · rename_i i p q i2 p2 q2 hx hy
            split at hs
            · rename_i hq
              obtain ⟨rfl, rfl, rfl⟩ := hq
              cases hs
              exact go_eqp false t yt e x y j _ _ _ hop h1 hj hx hy hm ht
            · cases hs
          · cases hs
        · cases hc
          simp only [stepA] at hs
          split at hs
          · rename_i i p q i2 p2 q2 hx hy
            split at hs
            · rename_i hq
              obtain ⟨rfl, rfl, rfl⟩ := hq
              cases hs
              exact go_eqp true t yt e x y j _ _ _ hop h1 hj hx hy hm ht
            · cases hs
          · cases hs
        · cases hc
      · cases hc
    · cases hc
  · rename_i args ats hop
    split at hc
    · rename_i x hargs
      cases hc
      simp only [stepA] at hs
      split at hs
      · rename_i id hx
        split at hs
        · rename_i t sz e0 es hi
          cases hs
          exact go_usd args ats x id t sz e0 es hop (by apply Array.toList_inj.1; simpa using hargs) hx hi hm ht
        · cases hs
      · cases hs
    · cases hc
  · rename_i args ats hop
    split at hc
    · rename_i p n pt it hargs hats
      split at hc
      · rename_i e hp
        split at hc
        · rename_i hce
          cases hc
          simp only [stepA] at hs
          split at hs
          · rename_i id k hx hn
            split at hs
            · rename_i t es hi
              split at hs
              · rename_i hq
                obtain ⟨rfl, hk, hne, hin⟩ := hq
                obtain ⟨l, hl, he⟩ := Option.map_eq_some_iff.1 hs
                cases he
                exact go_ust args ats p n pt it _ id k es l hop (by apply Array.toList_inj.1; simpa using hargs) (by apply Array.toList_inj.1; simpa using hats) hp hce hx hn hi hk hne hin hl hm ht
              · cases hs
            · cases hs
          · cases hs
        · cases hc
      · cases hc
    · cases hc
  · cases hc
theorem step_sound (Γ : Env) (hΓ : EnvOk P Γ) {ao : AOp} {r : Res} (hc : compOp P o.type o.op = some ao) (hs : stepA Γ ts mem ao = some (r, mem'))
    (hO : ∀ b, w.heap.size ≤ b → O b) (hm : MR O F w B mem) (ht : TR F w B ts a) : Goes P O F w B o a r mem' := by
  unfold compOp at hc
  cases hB : compOpB P o.op with
  | some op =>
    rw [hB] at hc
    cases hc
    exact step_soundB Γ hB hs hO hm ht
  | none =>
    rw [hB] at hc
    cases h : compOp0 P o.type o.op with
    | none =>
      rw [h] at hc
      cases hc
      simp [stepA] at hs
    | some op =>
      rw [h] at hc
      cases hc
      exact step_sound0 Γ hΓ h hs hO hm ht
end
end Go.Proofs.YtajpaagbfmjacaaGreatDoor.Am
