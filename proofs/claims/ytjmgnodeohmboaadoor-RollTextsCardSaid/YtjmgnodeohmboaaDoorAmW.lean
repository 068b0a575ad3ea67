/-
  THE ABSTRACT MACHINE: parts of slices of the call's own: cut, copied, cleared, made longer; slices and pointers against nil. No program is named here.
-/
import Derived.Test.YtjmgnodeohmboaaDoorAm9
namespace Go.Proofs.YtjmgnodeohmboaaDoor.Am
set_option linter.unusedSimpArgs false
set_option linter.unusedVariables false
open Go
section
variable {P : Program} {O F F' : Nat → Prop} {w w' : World} {B B' : List Loc} {ts : Nat → AV} {mem mem' : List Blk} {a : Act} {o : Oper}

/-- What a part is. -/
theorem win_inv {id off n t sz : Nat} {es : List AV} {y : Value} (hi : mem[id]? = some (.buf t sz es)) (hm : MR O F w B mem) (hv : VR F w B (.win id off n) y) :
    ∃ g p N xs, y = .slice (some ⟨g, p, none⟩) n (es.length - off) ∧ off + n ≤ es.length ∧ (off < es.length ∨ off = 0 → p = off * sz) ∧ 0 < sz ∧ es.length ≤ maxLen ∧ (∀ e ∈ es, e.cells.length = sz) ∧
      w.heap[g]? = some (.cells xs.toArray t (0, 0)) ∧ CR F w [] (AV.cellsAll es) xs ∧ xs.length = es.length * sz ∧ B[id]? = some (.arr sz (some g) N es.length) := by
  cases hv with
  | @win _ _ sz' _ N cap _ p g h hc hp =>
    have hbr := hm.br id _ _ hi h
    obtain ⟨h1, h2, h3, h4, h5, b, xs, h6, h7, h8⟩ := hbr
    subst h1; subst h3
    cases h6
    exact ⟨g, p, N, xs, rfl, hc, hp, h2, h4, h5, h7, h8, by rw [h8.length, AV.cellsAll_length h5], h⟩

theorem cell_of {g t k : Nat} {xs : List Value} (h : w.heap[g]? = some (.cells xs.toArray t (0, 0))) : w.cell? ⟨g, k, none⟩ = xs[k]? := by
  simp [World.cell?, h]

/-- What a slice of any kind has, as it lies. -/
theorem elemsW_ok {x : AV} {y : Value} {sz : Nat} {es : List AV} (h : elemsW mem x = some (sz, es)) (hm : MR O F w B mem) (hv : VR F w B x y) :
    ∃ base cap, y = .slice base es.length cap ∧ (∀ e ∈ es, e.cells.length = sz) ∧ (es ≠ [] → ∃ b p xs, base = some ⟨b, p, none⟩ ∧ CR F w [] (AV.cellsAll es) xs ∧ ∀ j z, xs[j]? = some z → w.cell? ⟨b, p + j, none⟩ = some z) := by
  unfold elemsW at h
  split at h
  · rename_i id off n
    split at h
    · rename_i t sz' es' hi
      cases h
      obtain ⟨g, p, N, xs, rfl, h1, h2, h3, h4, h5, h6, h7, h8, h9⟩ := win_inv hi hm hv
      have hl : ((es'.drop off).take n).length = n := by simp; omega
      refine ⟨some ⟨g, p, none⟩, _, by rw [hl], fun e he => h5 e (List.mem_of_mem_drop (List.mem_of_mem_take he)), fun hne => ?_⟩
      have hn0 : n ≠ 0 := by
        intro h0; subst h0; simp at hne
      have hp := h2 (.inl (by omega))
      refine ⟨g, p, (xs.drop (off * sz)).take (n * sz), rfl, ?_, fun j z hj => ?_⟩
      · rw [cellsAll_take _ _ (fun e he => h5 e (List.mem_of_mem_drop he)), cellsAll_drop _ _ h5]
        exact (h7.drop _).take _
      · rw [cell_of h6, hp]
        rw [List.getElem?_take] at hj
        split at hj
        · rwa [List.getElem?_drop] at hj
        · cases hj
    · cases h
  · exact elems_ok h hm hv

/-- The first elements of a slice of any kind. -/
theorem src_take {x : AV} {y : Value} {sz2 sz : Nat} {es2 : List AV} (k : Nat) (h : elemsW mem x = some (sz2, es2)) (hm : MR O F w B mem) (hv : VR F w B x y) (hs : sz2 = sz ∨ es2 = []) (hk : k ≤ es2.length) (hsh : (es2.take k).all AV.shaped = true) :
    ∃ news, Builtin.lenOf y = pure es2.length ∧ (∀ w1 : World, w1.heap = w.heap → (Builtin.firstCells sz k y).run P w1 = .ok news.toArray w1) ∧ news.length = k * sz ∧ (∀ u ∈ news, u.oneCell' = true) ∧
      CR F w [] (AV.cellsAll (es2.take k)) news ∧ ∀ e ∈ es2.take k, e.cells.length = sz := by
  obtain ⟨base, cap, rfl, hsz, hr⟩ := elemsW_ok h hm hv
  by_cases hne : es2 = []
  · subst hne
    have : k = 0 := by simpa using hk
    subst this
    refine ⟨[], rfl, fun w1 _ => ?_, by simp, by simp, by simpa using .nil, by simp⟩
    cases base <;> simp [Builtin.firstCells, loadCells, loadCellsFrom]
  · have hs' : sz2 = sz := hs.resolve_right hne
    subst hs'
    obtain ⟨b, p, ys, rfl, hc, hcell⟩ := hr hne
    have hl : ys.length = es2.length * sz2 := by rw [hc.length, AV.cellsAll_length hsz]
    have hck : CR F w [] (AV.cellsAll (es2.take k)) (ys.take (k * sz2)) := by
      rw [cellsAll_take _ _ hsz]; exact hc.take _
    have hkl : (ys.take (k * sz2)).length = k * sz2 := by
      rw [List.length_take, hl]
      exact Nat.min_eq_left (Nat.mul_le_mul_right _ hk)
    refine ⟨ys.take (k * sz2), rfl, fun w1 hw1 => run_firstCells_some (P := P) w1 sz2 k ⟨b, p, none⟩ es2.length cap _ hkl (fun j u hj => ?_), hkl, hck.onesAll hsh, hck, fun e he => hsz e (List.mem_of_mem_take he)⟩
    rw [add_plain]
    rw [List.getElem?_take] at hj
    split at hj
    · have := hcell j u hj
      simpa [World.cell?, hw1] using this
    · cases hj

theorem take_drop_set {es : List AV} {q : Nat} {ns : List AV} {sz : Nat} (hs : ∀ e ∈ es, e.cells.length = sz) (hn : ∀ e ∈ ns, e.cells.length = sz) :
    AV.cellsAll (es.take q ++ ns ++ es.drop (q + ns.length)) = (AV.cellsAll es).take (q * sz) ++ AV.cellsAll ns ++ (AV.cellsAll es).drop (q * sz + (AV.cellsAll ns).length) := by
  rw [AV.cellsAll_append, AV.cellsAll_append, cellsAll_take _ _ hs, cellsAll_drop _ _ hs, AV.cellsAll_length hn, Nat.add_mul]

/-- Some elements are written. -/
theorem win_write {id t sz g N q : Nat} {es ns : List AV} {xs ys : List Value} (hi : mem[id]? = some (.buf t sz es)) (hl : B[id]? = some (.arr sz (some g) N es.length)) (hm : MR O F w B mem) (hsz : 0 < sz) (hmx : es.length ≤ maxLen)
    (h5 : ∀ e ∈ es, e.cells.length = sz) (h6 : w.heap[g]? = some (.cells xs.toArray t (0, 0))) (h7 : CR F w [] (AV.cellsAll es) xs) (hn : ∀ e ∈ ns, e.cells.length = sz) (hc : CR F w [] (AV.cellsAll ns) ys) (h1 : ∀ u ∈ ys, u.oneCell' = true)
    (hq : q + ns.length ≤ es.length) :
    ∃ w', (storeCells ⟨g, q * sz, none⟩ ys).run P w = .ok () w' ∧ MR O F w' B (mem.set id (.buf t sz (es.take q ++ ns ++ es.drop (q + ns.length)))) ∧ Ext F F w w' B B ∧ Ev O w w' := by
  have hyl : ys.length = ns.length * sz := by rw [hc.length, AV.cellsAll_length hn]
  have hxl : xs.length = es.length * sz := by rw [h7.length, AV.cellsAll_length h5]
  have hfit : q * sz + ys.length ≤ xs.length := by rw [hyl, hxl, ← Nat.add_mul]; exact Nat.mul_le_mul_right _ hq
  have hrun := run_storeCells_at P g (q * sz) t ys 0 xs.toArray w h6 (by simpa using hfit) h1
  simp only [Nat.add_zero] at hrun
  obtain ⟨m1, e1⟩ := hm.write (w' := w.setRow g (xs.take (q * sz) ++ ys ++ xs.drop (q * sz + ys.length)).toArray) (k := .buf t sz (es.take q ++ ns ++ es.drop (q + ns.length))) hi hl rfl rfl (by simp) (fun c hc => setRow_other w g c _ hc)
    (fun e => ⟨rfl, hsz, by simp; omega, hmx, fun e he => by
        simp only [List.mem_append] at he
        rcases he with (he | he) | he
        · exact h5 e (List.mem_of_mem_take he)
        · exact hn e he
        · exact h5 e (List.mem_of_mem_drop he), g, _, rfl, setRow_heap w g _ _ t _ h6, by
      rw [take_drop_set h5 hn, AV.cellsAll_length hn, ← hyl]
      exact CR.mono e.bare (((h7.take _).append hc).append (h7.drop _))⟩)
  exact ⟨_, hrun, m1, e1, ⟨rfl, rfl, rfl, by simp, fun c _ ho => setRow_other w g c _ (fun hcb => ho (hcb ▸ (hm.own id g (ownB_mk hi hl rfl rfl)).1))⟩⟩

theorem set_same {id : Nat} {b : Blk} (hi : mem[id]? = some b) : mem.set id b = mem := by
  apply List.ext_getElem?
  intro j
  by_cases h : id = j
  · subst h; rw [List.getElem?_set_self (List.getElem?_eq_some_iff.1 hi).1, hi]
  · rw [List.getElem?_set_ne h]

/-! ### The operations -/
theorem nilQ_ok {p q : Bool} {x : AV} {y : Value} (h : nilQ mem p x = some q) (hm : MR O F w B mem) (hv : VR F w B x y) :
    (p = false ∧ ∃ b n c, y = .slice b n c ∧ q = b.isNone) ∨ (p = true ∧ ∃ b, y = .pointer b ∧ q = b.isNone) := by
  unfold nilQ at h
  split at h
  · rename_i sz e es
    cases h
    obtain ⟨base, cap, rfl, _, hr⟩ := elems_ok (x := .fsl sz (e :: es)) rfl hm hv
    obtain ⟨b, p, xs, rfl, _⟩ := hr (by simp)
    exact .inl ⟨rfl, _, _, _, rfl, rfl⟩
  · rename_i id
    split at h
    · rename_i t sz e es hi
      cases h
      obtain ⟨base, cap, rfl, _, hr⟩ := elems_ok (x := .osl id) (sz := sz) (es := e :: es) (by simp [elems, hi]) hm hv
      obtain ⟨b, p, xs, rfl, _⟩ := hr (by simp)
      exact .inl ⟨rfl, _, _, _, rfl, rfl⟩
    · cases h
  · cases h; obtain ⟨b, p, rfl⟩ := VR.of_ptr hv; exact .inr ⟨rfl, _, rfl, rfl⟩
  · cases h; obtain ⟨b, p, rfl⟩ := VR.of_fptr hv; exact .inr ⟨rfl, _, rfl, rfl⟩
  · cases h; cases hv.of_v; exact .inl ⟨rfl, _, _, _, rfl, rfl⟩
  · cases h; cases hv.of_v; exact .inr ⟨rfl, _, rfl, rfl⟩
  · cases h

theorem equal_slice {t e : TypeId} (hu : P.underlying t = some (.slice e)) (b : Option Addr) (n c n' c' : Nat) : (Op.equal t (.slice b n c) (.slice none n' c')).run P w = .ok b.isNone w := by
  show (Op.equalIn (9999 + 1) t _ _).run P w = _
  unfold Op.equalIn
  cases b <;> simp [run_under hu]
theorem equal_pointer {t e : TypeId} (hu : P.underlying t = some (.pointer e)) (b : Option Addr) : (Op.equal t (.pointer b) (.pointer none)).run P w = .ok b.isNone w := by
  show (Op.equalIn (9999 + 1) t _ _).run P w = _
  unfold Op.equalIn
  cases b <;> simp [run_under hu]

theorem go_isn (p neg : Bool) (t : TypeId) (x y : Operand) (yt : TypeId) (op : BinOp) (q : Bool) (ho : o.op = .binOp op t x y yt) (hn : nilC P t op y = some (p, neg)) (hx : nilQ mem p ((compOpd x).ev ts) = some q) (hm : MR O F w B mem) (ht : TR F w B ts a) :
    Goes P O F w B o a (.ret (.v (.bool (neg != q)))) mem := by
  have hv := opd_ok ht x
  refine .pure (x := .bool (neg != q)) ?_ hm (.v _)
  have hq := nilQ_ok hx hm hv
  have fin : ∀ (v z : Value), a.eval x = v → a.eval y = z → (∀ cs, v ≠ .agg cs) → v ≠ .nilIface → (binOp op t v z).run P w = .ok (.bool (neg != q)) w → (execOp a.eval o).run P w = .ok (.value (.bool (neg != q))) w := by
    intro v z e1 e2 h1 h2 hr
    simp only [execOp, ho, e1, e2, Sem.run_bind, run_guard (P := P) (w := w) op t x y v z h1 h2, Result.andThen_ok, hr]; rfl
  unfold nilC at hn
  split at hn
  · rename_i e n c hu
    cases hn
    rcases hq with ⟨_, b, n', c', h1, rfl⟩ | ⟨h, _⟩
    · refine fin _ _ h1 rfl (fun _ h => by cases h) (fun h => by cases h) ?_
      have : binOp .eql t (.slice b n' c') (.slice none n c) = (do pure (.bool (← Op.equal t (.slice b n' c') (.slice none n c)))) := rfl
      show (binOp .eql t (.slice b n' c') (.slice none n c)).run P w = _
      rw [this, Sem.run_bind, equal_slice hu]; simp
    · cases h
  · rename_i e n c hu
    cases hn
    rcases hq with ⟨_, b, n', c', h1, rfl⟩ | ⟨h, _⟩
    · refine fin _ _ h1 rfl (fun _ h => by cases h) (fun h => by cases h) ?_
      have : binOp .neq t (.slice b n' c') (.slice none n c) = (do pure (.bool (!(← Op.equal t (.slice b n' c') (.slice none n c))))) := rfl
      show (binOp .neq t (.slice b n' c') (.slice none n c)).run P w = _
      rw [this, Sem.run_bind, equal_slice hu]; simp
    · cases h
  · rename_i e hu
    cases hn
    rcases hq with ⟨h, _⟩ | ⟨_, b, h1, rfl⟩
    · cases h
    · refine fin _ _ h1 rfl (fun _ h => by cases h) (fun h => by cases h) ?_
      have : binOp .eql t (.pointer b) (.pointer none) = (do pure (.bool (← Op.equal t (.pointer b) (.pointer none)))) := rfl
      show (binOp .eql t (.pointer b) (.pointer none)).run P w = _
      rw [this, Sem.run_bind, equal_pointer hu]; simp
  · rename_i e hu
    cases hn
    rcases hq with ⟨h, _⟩ | ⟨_, b, h1, rfl⟩
    · cases h
    · refine fin _ _ h1 rfl (fun _ h => by cases h) (fun h => by cases h) ?_
      have : binOp .neq t (.pointer b) (.pointer none) = (do pure (.bool (!(← Op.equal t (.pointer b) (.pointer none))))) := rfl
      show (binOp .neq t (.pointer b) (.pointer none)).run P w = _
      rw [this, Sem.run_bind, equal_pointer hu]; simp
  · cases hn

theorem equal_iface {t : TypeId} {ms : Array (String × TypeId)} (hu : P.underlying t = some (.interface ms)) (tx : TypeId) (vx : Value) : (Op.equal t (.iface tx vx) .nilIface).run P w = .ok false w := by
  show (Op.equalIn (9999 + 1) t _ _).run P w = _
  unfold Op.equalIn
  simp [run_under hu]
theorem equal_iface0 {t : TypeId} {ms : Array (String × TypeId)} (hu : P.underlying t = some (.interface ms)) : (Op.equal t .nilIface .nilIface).run P w = .ok true w := by
  show (Op.equalIn (9999 + 1) t _ _).run P w = _
  unfold Op.equalIn
  simp [run_under hu]

theorem run_guard0 (op : BinOp) (t : TypeId) (x : Operand) : (eqGuard op t x (.const .nilIface) .nilIface .nilIface).run P w = .ok () w := by
  unfold eqGuard
  cases op <;> simp

theorem go_isi (neg : Bool) (t : TypeId) (x y : Operand) (yt : TypeId) (op : BinOp) (q : Bool) (ho : o.op = .binOp op t x y yt) (hn : nilI P t op y = some neg) (hx : nilV ((compOpd x).ev ts) = some q) (hm : MR O F w B mem) (ht : TR F w B ts a) :
    Goes P O F w B o a (.ret (.v (.bool (neg != q)))) mem := by
  have hv := opd_ok ht x
  refine .pure (x := .bool (neg != q)) ?_ hm (.v _)
  have hq : (q = false ∧ ∃ tx vx, a.eval x = .iface tx vx) ∨ (q = true ∧ a.eval x = .nilIface) := by
    unfold nilV at hx
    split at hx
    · rename_i h0; rw [h0] at hv; cases hx; obtain ⟨y, hy, _⟩ := hv.of_ifc; exact .inl ⟨rfl, _, _, hy⟩
    · rename_i h0; rw [h0] at hv; cases hx; exact .inr ⟨rfl, hv.of_v⟩
    · cases hx
  have key : ∀ ms, P.underlying t = some (.interface ms) → y = .const .nilIface → (op = .eql ∧ neg = false ∨ op = .neq ∧ neg = true) → (execOp a.eval o).run P w = .ok (.value (.bool (neg != q))) w := by
    intro ms hu hy hop
    have hg : (eqGuard op t x y (a.eval x) (a.eval y)).run P w = .ok () w := by
      subst hy
      rcases hq with ⟨_, tx, vx, h1⟩ | ⟨_, h1⟩
      · rw [h1]; exact run_guard op t x _ _ _ (fun _ h => by cases h) (fun h => by cases h)
      · rw [h1]; exact run_guard0 op t x
    have he : a.eval y = .nilIface := by subst hy; rfl
    have hb : (binOp op t (a.eval x) .nilIface).run P w = .ok (.bool (neg != q)) w := by
      rcases hq with ⟨rfl, tx, vx, h1⟩ | ⟨rfl, h1⟩ <;> rcases hop with ⟨rfl, rfl⟩ | ⟨rfl, rfl⟩ <;> rw [h1]
      · have : binOp .eql t (.iface tx vx) .nilIface = (do pure (.bool (← Op.equal t (.iface tx vx) .nilIface))) := rfl
        rw [this, Sem.run_bind, equal_iface hu]; simp
      · have : binOp .neq t (.iface tx vx) .nilIface = (do pure (.bool (!(← Op.equal t (.iface tx vx) .nilIface)))) := rfl
        rw [this, Sem.run_bind, equal_iface hu]; simp
      · have : binOp .eql t .nilIface .nilIface = (do pure (.bool (← Op.equal t .nilIface .nilIface))) := rfl
        rw [this, Sem.run_bind, equal_iface0 hu]; simp
      · have : binOp .neq t .nilIface .nilIface = (do pure (.bool (!(← Op.equal t .nilIface .nilIface)))) := rfl
        rw [this, Sem.run_bind, equal_iface0 hu]; simp
    rw [he] at hg
    simp only [execOp, ho, he, Sem.run_bind, hg, Result.andThen_ok, hb]; rfl
  unfold nilI at hn
  split at hn
  · rename_i ms hu; cases hn; exact key ms hu rfl (.inl ⟨rfl, rfl⟩)
  · rename_i ms hu; cases hn; exact key ms hu rfl (.inr ⟨rfl, rfl⟩)
  · cases hn

theorem go_lenW (args : Array Operand) (x : Operand) (t e : TypeId) (ats : Array TypeId) (sz : Nat) (es : List AV) (ho : o.op = .call { callee := .builtin .len, args := args, argTypes := ats }) (h0 : ats[0]? = some t) (ha : args[0]? = some x)
    (hu : P.underlying t = some (.slice e)) (hx : elemsW mem ((compOpd x).ev ts) = some (sz, es)) (hm : MR O F w B mem) (ht : TR F w B ts a) : Goes P O F w B o a (.ret (.v (.int .i64 es.length))) mem := by
  have h := opd_ok ht x
  refine .pure (x := .int .i64 es.length) ?_ hm (.v _)
  obtain ⟨base, cap, e, _⟩ := elemsW_ok hx hm h
  simp [execOp, ho, resolve, invoke, builtin, Builtin.len_, h0, ha, run_under hu, e, goInt]

theorem go_cap (args : Array Operand) (x : Operand) (ats : Array TypeId) (ty e id off n t sz : Nat) (es : List AV) (ho : o.op = .call { callee := .builtin .cap, args := args, argTypes := ats }) (h0 : ats[0]? = some ty) (ha : args[0]? = some x) (hu : P.underlying ty = some (.slice e))
    (hx : (compOpd x).ev ts = .win id off n) (hi : mem[id]? = some (.buf t sz es)) (hm : MR O F w B mem) (ht : TR F w B ts a) : Goes P O F w B o a (.ret (.v (.int .i64 ((es.length - off : Nat) : Int)))) mem := by
  have h := opd_ok ht x
  rw [hx] at h
  refine .pure (x := .int .i64 ((es.length - off : Nat) : Int)) ?_ hm (.v _)
  obtain ⟨g, p, N, xs, e, _⟩ := win_inv hi hm h
  simp [execOp, ho, resolve, invoke, builtin, Builtin.cap_, h0, ha, run_under hu, e, goInt]

theorem go_slcW (t e : TypeId) (x : Operand) (lo hi : Option Operand) (sz id off k tt : Nat) (es : List AV) (l h : Nat) (ho : o.op = .slice t x lo hi none) (hu : P.underlying t = some (.slice e)) (hn : szOf P e = some sz)
    (hx : (compOpd x).ev ts = .win id off k) (hid : mem[id]? = some (.buf tt sz es)) (hl : boundOf ts 0 (lo.map compOpd) = some l) (hh : boundOf ts k (hi.map compOpd) = some h) (h1 : l ≤ h) (h2 : off + h ≤ es.length)
    (hm : MR O F w B mem) (ht : TR F w B ts a) : Goes P O F w B o a (.ret (.win id (off + l) (h - l))) mem := by
  have hv := opd_ok ht x
  rw [hx] at hv
  obtain ⟨g, p, N, xs, ex, q1, q2, q3, q4, q5, q6, q7, q8, q9⟩ := win_inv hid hm hv
  have key : (execOp a.eval o).run P w = .ok (.value (.slice (if es.length - off = l then some ⟨g, p, none⟩ else some ⟨g, p + l * sz, none⟩) (h - l) (es.length - off - l))) w := by
    have hb : (Instr.sliceBounds true k (es.length - off) (lo.map a.eval) (hi.map a.eval) none).run P w = .ok (l, h, es.length - off) w := by
      unfold Instr.sliceBounds
      cases hi with
      | none =>
        simp only [Option.map_none, boundOf, Option.some.injEq] at hh
        subst hh
        cases lo with
        | none =>
          simp only [Option.map_none, boundOf, Option.some.injEq] at hl
          subst hl
          rfl
        | some lo =>
          obtain ⟨v, e1, e2⟩ := bound_run (P := P) (w := w) (y := k) (code := .sliceB) ht hl (by simp) h1
          simp only [Option.map_some, Option.some.injEq] at e1
          simp only [Option.map_some, Option.map_none, Sem.run_bind, Sem.run_pure, Result.andThen_ok, Option.isSome_none, Bool.false_eq_true, if_false, e1, e2]
      | some hi =>
        obtain ⟨v, e1, e2⟩ := bound_run (P := P) (w := w) (y := es.length - off) (code := .sliceAcap) ht hh (by simp) (by omega)
        simp only [Option.map_some, Option.some.injEq] at e1
        cases lo with
        | none =>
          simp only [Option.map_none, boundOf, Option.some.injEq] at hl
          subst hl
          simp only [Option.map_some, Option.map_none, Sem.run_bind, Sem.run_pure, Result.andThen_ok, if_true, e1, e2]
        | some lo =>
          obtain ⟨v', e1', e2'⟩ := bound_run (P := P) (w := w) (y := h) (code := .sliceB) ht hl (by simp) h1
          simp only [Option.map_some, Option.some.injEq] at e1'
          simp only [Option.map_some, Sem.run_bind, Sem.run_pure, Result.andThen_ok, if_true, e1, e2, Option.isSome_none, Bool.false_eq_true, if_false, e1', e2']
    simp only [execOp, ho, Instr.sliceAt, Instr.slice, Sem.run_bind, run_under hu, Result.andThen_ok, ex]
    simp only [Option.map_none, hb, Result.andThen_ok, run_size hn, Sem.run_pure, Option.map_some, add_plain]
  refine .pure key hm ?_
  have hfin : VR F w B (.win id (off + l) (h - l)) (.slice (some ⟨g, if es.length - off = l then p else p + l * sz, none⟩) (h - l) (es.length - (off + l))) := by
    refine .win q9 (by omega) (fun hp => ?_)
    by_cases hll : es.length - off = l
    · rw [if_pos hll]
      rcases hp with hp | hp
      · omega
      · have h1 := q2 (.inr (by omega))
        have h2 : off = 0 := by omega
        have h3 : l = 0 := by omega
        rw [h1, h2, h3]
    · rw [if_neg hll]
      rcases hp with hp | hp
      · rw [q2 (.inl (by omega)), Nat.add_mul]
      · rw [q2 (.inr (by omega)), Nat.add_mul]
  rw [Nat.sub_sub]
  split
  · rename_i hll; rw [if_pos hll] at hfin; exact hfin
  · rename_i hll; rw [if_neg hll] at hfin; exact hfin

theorem go_cpy (d s : Operand) (t u e e' : TypeId) (sz id off n tt sz2 : Nat) (es es2 : List AV) (ho : o.op = .call { callee := .builtin .copy, args := #[d, s], argTypes := #[t, u] }) (hu : P.underlying t = some (.slice e)) (hn : szOf P e = some sz)
    (hd : (compOpd d).ev ts = .win id off n) (hid : mem[id]? = some (.buf tt sz es)) (hs : elemsW mem ((compOpd s).ev ts) = some (sz2, es2)) (h2 : sz2 = sz ∨ es2 = []) (hle : off + n ≤ es.length) (hsh : (es2.take n).all AV.shaped = true)
    (hm : MR O F w B mem) (ht : TR F w B ts a) : Goes P O F w B o a (.ret (.v (.int .i64 ((min es2.length n : Nat) : Int)))) (mem.set id (.buf tt sz (es.take off ++ es2.take n ++ es.drop (off + min es2.length n)))) := by
  have hv := opd_ok ht d
  rw [hd] at hv
  obtain ⟨g, p, N, xs, ex, q1, q2, q3, q4, q5, q6, q7, q8, q9⟩ := win_inv hid hm hv
  have htk : es2.take n = es2.take (min es2.length n) := by rw [List.take_eq_take_iff]; omega
  obtain ⟨news, r1, r2, r3, r4, r5, r6⟩ := src_take (P := P) (sz := sz) (min es2.length n) hs hm (opd_ok ht s) h2 (Nat.min_le_left _ _) (by rw [← htk]; exact hsh)
  have hlen : (es2.take (min es2.length n)).length = min es2.length n := by rw [List.length_take]; omega
  by_cases h0 : min es2.length n = 0
  · have hnil : news = [] := List.eq_nil_of_length_eq_zero (by rw [r3, h0]; simp)
    have heq : es.take off ++ es2.take n ++ es.drop (off + min es2.length n) = es := by rw [htk, h0]; simp
    rw [heq, set_same hid]
    refine .pure (x := .int .i64 ((min es2.length n : Nat) : Int)) ?_ hm (.v _)
    have hr := r2 w rfl
    rw [h0, hnil] at hr
    simp [execOp, ho, resolve, invoke, builtin, Builtin.copy_, run_under hu, ex, r1, run_size hn, h0, hr, storeCells, goInt, Nat.min_eq_left, show Nat.min es2.length n = 0 from h0]
  · have hp := q2 (.inl (by omega))
    obtain ⟨w', s1, s2, s3, s4⟩ := win_write (P := P) (q := off) hid q9 hm q3 q4 q5 q6 q7 r6 r5 r4 (by rw [hlen]; omega)
    rw [hlen, ← htk] at s2
    refine .value (x := .int .i64 ((min es2.length n : Nat) : Int)) (w' := w') ?_ s2 s3 s4 (fun _ h => .inl h) (.v _)
    have hr := r2 w rfl
    rw [← hp] at s1
    have hr' : (Builtin.firstCells sz (Nat.min es2.length n) (a.eval s)).run P w = .ok news.toArray w := hr
    simp [execOp, ho, resolve, invoke, builtin, Builtin.copy_, run_under hu, ex, r1, run_size hn, hr', s1, goInt]

theorem zero_cells {z : List Value} {zv : Value} (hz : zv.cells.toList = z) (h0 : 0 < z.length) (n : Nat) : (Builtin.zeroCells zv.cells n).toList = (List.replicate n z).flatten := by
  have hsz : zv.cells.size = z.length := by rw [← hz]; rfl
  unfold Builtin.zeroCells
  rw [hsz]
  apply List.ext_getElem?
  intro i
  have hl : (List.replicate n z).flatten.length = n * z.length := by simp
  by_cases hi : i < n * z.length
  · rw [Array.getElem?_toList, Array.getElem?_map, Array.getElem?_range, if_pos hi]
    simp only [Option.map_some]
    have hmod : i % z.length < z.length := Nat.mod_lt _ h0
    have e1 : zv.cells[i % z.length]! = z[i % z.length] := by
      rw [getElem!_pos zv.cells (i % z.length) (by rw [hsz]; exact hmod)]
      subst hz
      rfl
    rw [e1]
    clear hl e1
    induction n generalizing i with
    | zero => simp at hi
    | succ n ih =>
      rw [List.replicate_succ, List.flatten_cons]
      by_cases hlt : i < z.length
      · rw [List.getElem?_append_left hlt, List.getElem?_eq_getElem hlt]
        simp only [Nat.mod_eq_of_lt hlt]
      · rw [List.getElem?_append_right (by omega)]
        have h1 : (i - z.length) % z.length = i % z.length := (Nat.mod_eq_sub_mod (by omega)).symm
        have := ih (i - z.length) (by rw [Nat.add_mul] at hi; omega) (Nat.mod_lt _ h0)
        simp only [h1] at this
        exact this
  · rw [Array.getElem?_toList, Array.getElem?_map, Array.getElem?_eq_none (by simpa using hi), List.getElem?_eq_none (by rw [hl]; omega)]
    rfl

theorem cellsAll_rep (z : List Value) : ∀ n, AV.cellsAll (List.replicate n (.agg (z.map .v))) = ((List.replicate n z).flatten).map .v
  | 0 => rfl
  | n + 1 => by simp [List.replicate_succ, AV.cellsAll, cellsAll_rep z n]

theorem rep_len (z : List Value) (n : Nat) : ∀ e ∈ List.replicate n (AV.agg (z.map .v)), e.cells.length = z.length := by
  intro e he
  rw [List.eq_of_mem_replicate he]; simp

theorem go_clr (x : Operand) (t e : TypeId) (z : List Value) (id off n tt sz : Nat) (es : List AV) (ho : o.op = .call { callee := .builtin .clear, args := #[x], argTypes := #[t] }) (hu : P.underlying t = some (.slice e)) (hz : zeroOf P e = some z)
    (hx : (compOpd x).ev ts = .win id off n) (hid : mem[id]? = some (.buf tt sz es)) (hzl : z.length = sz) (h1 : ∀ u ∈ z, u.oneCell' = true) (hle : off + n ≤ es.length) (hm : MR O F w B mem) (ht : TR F w B ts a) :
    Goes P O F w B o a (.ret (.tup [])) (mem.set id (.buf tt sz (es.take off ++ List.replicate n (.agg (z.map .v)) ++ es.drop (off + n)))) := by
  have hv := opd_ok ht x
  rw [hx] at hv
  obtain ⟨g, p, N, xs, ex, q1, q2, q3, q4, q5, q6, q7, q8, q9⟩ := win_inv hid hm hv
  by_cases h0 : n = 0
  · subst h0
    have heq : es.take off ++ List.replicate 0 (AV.agg (z.map .v)) ++ es.drop (off + 0) = es := by simp
    rw [heq, set_same hid]
    refine .pure (x := .tuple #[]) ?_ hm (.tup .nil)
    simp [execOp, ho, resolve, invoke, builtin, Builtin.clear_, run_under hu, ex]
  · have hp := q2 (.inl (by omega))
    obtain ⟨v, hv1, hv2⟩ := zero_run (P := P) (w := w) hz
    have hzc := zero_cells hv2 (by omega) n
    obtain ⟨w', s1, s2, s3, s4⟩ := win_write (P := P) (q := off) (ns := List.replicate n (.agg (z.map .v))) (ys := (List.replicate n z).flatten) hid q9 hm q3 q4 q5 q6 q7 (by rw [← hzl]; exact rep_len z n) (by rw [cellsAll_rep]; exact CR.lits _) (by
      intro u hu
      obtain ⟨l, hl, hu⟩ := List.mem_flatten.1 hu
      rw [List.eq_of_mem_replicate hl] at hu
      exact h1 u hu) (by simpa using hle)
    rw [List.length_replicate] at s2
    refine .value (x := .tuple #[]) (w' := w') ?_ s2 s3 s4 (fun _ h => .inl h) (.tup .nil)
    rw [← hp] at s1
    have : ∃ k, n = k + 1 := ⟨n - 1, by omega⟩
    obtain ⟨k, rfl⟩ := this
    simp [execOp, ho, resolve, invoke, builtin, Builtin.clear_, run_under hu, ex, hv1, hzc, s1]

theorem go_appW (s x : Operand) (t u e e' : TypeId) (i : TypeInfo) (id off n tt sz2 : Nat) (es es2 : List AV) (ho : o.op = .call { callee := .builtin .append, args := #[s, x], argTypes := #[t, u] }) (ht1 : P.underlying t = some (.slice e)) (hi : P.info? e = some i) (hu : P.underlying u = some (.slice e'))
    (hs : (compOpd s).ev ts = .win id off n) (hid : mem[id]? = some (.buf tt i.size es)) (hx : elemsW mem ((compOpd x).ev ts) = some (sz2, es2)) (h2 : sz2 = i.size ∨ es2 = []) (hle : off + n + es2.length ≤ es.length) (hsh : es2.all AV.shaped = true)
    (hm : MR O F w B mem) (ht : TR F w B ts a) : Goes P O F w B o a (.ret (.win id off (n + es2.length))) (mem.set id (.buf tt i.size (es.take (off + n) ++ es2 ++ es.drop (off + n + es2.length)))) := by
  have hv := opd_ok ht s
  rw [hs] at hv
  obtain ⟨g, p, N, xs, ex, q1, q2, q3, q4, q5, q6, q7, q8, q9⟩ := win_inv hid hm hv
  obtain ⟨news, r1, r2, r3, r4, r5, r6⟩ := src_take (P := P) (sz := i.size) es2.length hx hm (opd_ok ht x) h2 (Nat.le_refl _) (by rw [List.take_length]; exact hsh)
  rw [List.take_length] at r5 r6
  have hroom : n + es2.length ≤ es.length - off := by omega
  have hr := r2 w rfl
  have hsz : szOf P e = some i.size := by simp [szOf, hi]
  by_cases h0 : es2.length = 0
  · have hnil : es2 = [] := List.eq_nil_of_length_eq_zero h0
    have hnn : news = [] := List.eq_nil_of_length_eq_zero (by rw [r3, h0]; simp)
    subst hnil
    have heq : es.take (off + n) ++ [] ++ es.drop (off + n + ([] : List AV).length) = es := by simp
    rw [heq, set_same hid]
    refine .pure (x := .slice (some ⟨g, p, none⟩) (n + 0) (es.length - off)) ?_ hm (.win q9 (by simpa using q1) q2)
    rw [hnn] at hr
    simp only [List.length_nil] at r1 hr hroom
    simp [execOp, ho, resolve, invoke, builtin, Builtin.append_, run_under ht1, run_under hu, ex, r1, run_size hsz, hr, storeCells]
    omega
  · have hp : p + n * i.size = (off + n) * i.size := by
      rw [q2 (.inl (by omega)), Nat.add_mul]
    obtain ⟨w', s1, s2, s3, s4⟩ := win_write (P := P) (q := off + n) hid q9 hm q3 q4 q5 q6 q7 r6 r5 r4 hle
    rw [← hp] at s1
    refine .value (x := .slice (some ⟨g, p, none⟩) (n + es2.length) (es.length - off)) (w' := w') ?_ s2 s3 s4 (fun _ h => .inl h) (.win (s3.pl _ _ q9) (by omega) q2)
    simp [execOp, ho, resolve, invoke, builtin, Builtin.append_, run_under ht1, run_under hu, ex, r1, run_size hsz, hr, hroom, add_plain, s1]

/-- Some zero elements behind a part that has no room for them. -/
theorem go_ap0 (s k : Operand) (t u e : TypeId) (ki : IntKind) (i : TypeInfo) (z : Value) (id off n : Nat) (kk : Int) (es : List AV) (ho : o.op = .call { callee := .builtin .append, args := #[s, k], argTypes := #[t, u] })
    (ht1 : P.underlying t = some (.slice e)) (hi : P.info? e = some i) (hz : i.zero = some z) (hzs : z.cells.size = i.size) (hsz : i.size ≠ 0) (hu : P.underlying u = some (.int ki)) (hz1 : ∀ c ∈ z.cells.toList, c.oneCell' = true)
    (hs : (compOpd s).ev ts = .win id off n) (hk : (compOpd k).ev ts = .v (.int .i64 kk)) (hid : mem[id]? = some (.buf e i.size es)) (hle : off + n ≤ es.length) (h0 : 0 ≤ kk) (hno : es.length < off + n + kk.toNat)
    (hb1 : (n + kk.toNat) * i.bytes ≤ 140737488355328) (hb2 : n + kk.toNat ≤ 140737488355328) (hsh : ((es.drop off).take n).all AV.shaped = true)
    (hO : ∀ b, w.heap.size ≤ b → O b) (hm : MR O F w B mem) (ht : TR F w B ts a) :
    Goes P O F w B o a (.ret (.osl mem.length)) (mem ++ [.arr e i.size ((es.drop off).take n ++ List.replicate kk.toNat (.agg (z.cells.toList.map .v)))]) := by
  have hv := opd_ok ht s
  rw [hs] at hv
  have hvk := opd_ok ht k
  rw [hk] at hvk
  have ek := hvk.of_v
  obtain ⟨g, p, N, xs, ex, q1, q2, q3, q4, q5, q6, q7, q8, q9⟩ := win_inv hid hm hv
  obtain ⟨news, r1, r2, r3, r4, r5, r6⟩ := src_take (P := P) (sz := i.size) n (x := .win id off n) (es2 := (es.drop off).take n) (by simp [elemsW, hid]) hm hv (.inl rfl) (by simp; omega) (by rw [List.take_take, Nat.min_self]; exact hsh)
  rw [List.take_take, Nat.min_self] at r5 r6
  obtain ⟨m, rfl⟩ := Int.eq_ofNat_of_zero_le h0
  simp only [Int.toNat_natCast] at hno hb1 hb2 ⊢
  have hm0 : m ≠ 0 := by omega
  have h63 : n + m ≤ maxLen := by simp only [maxLen]; omega
  have hsz' : szOf P e = some i.size := by simp [szOf, hi]
  have hnr : ¬ (n + m ≤ es.length - off) := by omega
  have hfit : Builtin.nextslicecap (n + m) (es.length - off) * i.bytes ≤ 281474976710656 := growslice_fits (by omega) hb1
  have h48' : ¬ (281474976710656 < Builtin.nextslicecap (n + m) (es.length - off) * i.bytes) := by omega
  have hge := grownCap_ge w (n + m) (es.length - off) e
  have hcm : grownCap w (n + m) (es.length - off) e ≤ maxLen := grownCap_le_maxLen w (n + m) (es.length - off) e h63
  have hwrap : IntKind.wrap .i64 (m : Int) = (m : Int) := by rw [IntKind.wrap_i64]; omega
  have hmb : m * i.bytes ≤ 140737488355328 := Nat.le_trans (Nat.mul_le_mul_right _ (by omega)) hb1
  have hmb' : ¬ (281474976710656 < (m : Int) * (i.bytes : Int)) := by
    rw [← Int.natCast_mul]; omega
  have h63' : ¬ (9223372036854775807 < ((n : Int) + (m : Int))) := by omega
  have hzc := zero_cells (z := z.cells.toList) rfl (by have : z.cells.toList.length = z.cells.size := rfl; omega) m
  have hrow : World.ownsRow (w.drew.alloc (.cells (news.toArray ++ Builtin.zeroCells z.cells m ++ Builtin.zeroCells z.cells (grownCap w (n + m) (es.length - off) e - (n + m))) e)) 0 e i.size (.slice (some ⟨w.heap.size, 0, none⟩) (n + m) (grownCap w (n + m) (es.length - off) e)) (n + m) (news ++ (List.replicate m z.cells.toList).flatten) := by
    have hfl : (List.replicate m z.cells.toList).flatten.length = m * i.size := by simp [hzs]
    have hlen : (news ++ (List.replicate m z.cells.toList).flatten).length = (n + m) * i.size := by rw [List.length_append, r3, hfl, Nat.add_mul]
    refine ⟨hlen, .inr ⟨w.heap.size, _, _, rfl, Nat.zero_le _, alloc_new w.drew _, hge, hcm, ?_, ?_⟩⟩
    · simp only [Array.size_append, List.size_toArray, size_zeroCells, hzs, r3, ← Nat.add_mul]
      congr 1
      omega
    · simp only [Array.toList_append, hzc]
      rw [← hlen]
      exact List.take_left
  obtain ⟨l, m1, m2, m3, m4⟩ := own_append (O := O) (mem := mem) (row := none) (t := e) (sz := i.size) (es := (es.drop off).take n) (es2 := List.replicate m (.agg (z.cells.toList.map .v))) hm hO (Nat.pos_of_ne_zero hsz) hrow
    ⟨rfl, rfl, rfl, by simp, fun k hk _ => alloc_old w.drew _ k hk⟩ (by simp; omega) (by simp) r5 (by rw [cellsAll_rep]; exact CR.lits _)
    (fun x hx => by
      rcases List.mem_append.1 hx with hx | hx
      · exact r6 x hx
      · rw [rep_len _ _ x hx]; exact hzs) (fun b hb => by cases hb) (fun b hb => by cases hb; exact .inr (Nat.le_refl _))
  refine .value (w' := w.drew.alloc (.cells (news.toArray ++ Builtin.zeroCells z.cells m ++ Builtin.zeroCells z.cells (grownCap w (n + m) (es.length - off) e - (n + m))) e)) ?_ m1 m2 m3 (fun _ h => .inl h) m4
  have hr := r2 w.drew rfl
  rw [ex] at hr
  have hmz : ¬ (m = 0 ∨ i.size = 0) := by omega
  have hai : ∀ w1, (asIntOf (Value.int .i64 (m : Int))).run P w1 = .ok (.i64, (m : Int)) w1 := fun _ => rfl
  have hnn : ¬ ((m : Int) < 0) := by omega
  simp [execOp, ho, resolve, invoke, builtin, Builtin.append_, run_under ht1, run_under hu, ex, ek, asInt, hai, hnn, sizeOf, typeInfo, zeroValue, hi, hz, hwrap, hmb', hnr, h63', h48', Question.forced, hr, newRow, grownCap, hm0, hsz, hmz]
  exact fun h => absurd h (Nat.mul_ne_zero hm0 hsz)

/-- Slices cut with a new end of their room. -/
theorem bounds3 {lo hi : Option Operand} {mx : Operand} {len cap l h m : Nat} (ht : TR F w B ts a) (hl : boundOf ts 0 (lo.map compOpd) = some l) (hh : boundOf ts len (hi.map compOpd) = some h) (hmx : boundOf ts len (some (compOpd mx)) = some m) (hne : hi ≠ none)
    (h1 : l ≤ h) (h2 : h ≤ m) (h3 : m ≤ cap) : (Instr.sliceBounds true len cap (lo.map a.eval) (hi.map a.eval) (some (a.eval mx))).run P w = .ok (l, h, m) w := by
  obtain ⟨vm, e1, e2⟩ := bound_run (P := P) (w := w) (y := cap) (code := .slice3Acap) (x := some mx) ht hmx (by simp) h3
  simp only [Option.map_some, Option.some.injEq] at e1
  unfold Instr.sliceBounds
  cases hi with
  | none => exact absurd rfl hne
  | some hi =>
    obtain ⟨vh, e3, e4⟩ := bound_run (P := P) (w := w) (y := m) (code := .slice3B) ht hh (by simp) h2
    simp only [Option.map_some, Option.some.injEq] at e3
    cases lo with
    | none =>
      simp only [Option.map_none, boundOf, Option.some.injEq] at hl
      subst hl
      simp only [Option.map_some, Option.map_none, Sem.run_bind, Sem.run_pure, Result.andThen_ok, if_true, e1, e2, e3, e4]
    | some lo =>
      obtain ⟨vl, e5, e6⟩ := bound_run (P := P) (w := w) (y := h) (code := .slice3C) ht hl (by simp) h1
      simp only [Option.map_some, Option.some.injEq] at e5
      simp only [Option.map_some, Sem.run_bind, Sem.run_pure, Result.andThen_ok, if_true, e1, e2, e3, e4, Option.isSome_some, e5, e6]

theorem go_sl3F (t e : TypeId) (x : Operand) (lo hi : Option Operand) (mx : Operand) (n sz : Nat) (es : List AV) (l h m : Nat) (ho : o.op = .slice t x lo hi (some mx)) (hu : P.underlying t = some (.slice e)) (hn : szOf P e = some n) (hne : hi ≠ none)
    (hx : (compOpd x).ev ts = .fsl sz es) (hl : boundOf ts 0 (lo.map compOpd) = some l) (hh : boundOf ts es.length (hi.map compOpd) = some h) (hmx : boundOf ts es.length (some (compOpd mx)) = some m) (h1 : l ≤ h) (h2 : h ≤ m) (h3 : m ≤ es.length) (hsz : sz = n ∨ es = [])
    (hm : MR O F w B mem) (ht : TR F w B ts a) : Goes P O F w B o a (.ret (.fsl sz ((es.drop l).take (h - l)))) mem := by
  have hv := opd_ok ht x
  rw [hx] at hv
  obtain ⟨base, cap, ex, _, hs, hr⟩ := fsl_inv hv
  have hc : es.length ≤ cap := by
    by_cases hne : es = []
    · rw [hne]; simp
    · exact (hr hne).1
  have key : (execOp a.eval o).run P w = .ok (.value (.slice (if m = l then base else base.map (·.add (l * n))) (h - l) (m - l))) w := by
    have hb := bounds3 (P := P) (cap := cap) (w := w) ht hl hh hmx hne h1 h2 (by omega)
    simp only [execOp, ho, Instr.sliceAt, Instr.slice, Sem.run_bind, run_under hu, Result.andThen_ok, ex]
    simp only [Option.map_some, hb, Result.andThen_ok, run_size hn, Sem.run_pure]
  refine .pure key hm ?_
  by_cases hlh : l = h
  · subst hlh
    simp only [Nat.sub_self, List.take_zero]
    exact .fslNil _ _
  · have hne : es ≠ [] := by intro h; subst h; simp at h3; omega
    obtain ⟨hc, b, p, xs, rfl, hF, hcr, hcell⟩ := hr hne
    have hszn : sz = n := hsz.resolve_right hne
    subst hszn
    rw [if_neg (by omega)]
    simp only [Option.map_some, add_plain]
    have hlen : ((es.drop l).take (h - l)).length = h - l := by simp; omega
    have hfin : VR F w B (.fsl sz ((es.drop l).take (h - l))) (.slice (some ⟨b, p + l * sz, none⟩) ((es.drop l).take (h - l)).length (m - l)) := by
      refine .fsl (xs := (xs.drop (l * sz)).take ((h - l) * sz)) b (p + l * sz) (m - l) ?_ (fun e he => hs e (List.mem_of_mem_drop (List.mem_of_mem_take he))) hF (fun j x hj => ?_) (by rw [hlen]; omega)
      · rw [cellsAll_take _ _ (fun e he => hs e (List.mem_of_mem_drop he)), cellsAll_drop _ _ hs]
        exact (hcr.drop _).take _
      · rw [List.getElem?_take] at hj
        split at hj
        · rw [List.getElem?_drop] at hj
          have := hcell _ _ hj
          rw [Nat.add_assoc]; exact this
        · cases hj
    rw [hlen] at hfin
    exact hfin

theorem go_sl3A (t e : TypeId) (x : Operand) (lo hi : Option Operand) (mx : Operand) (n sz : Nat) (es : List AV) (l h m : Nat) (ho : o.op = .slice t x lo hi (some mx)) (hu : P.underlying t = some (.slice e)) (hn : szOf P e = some n) (hne : hi ≠ none)
    (hx : elemsW mem ((compOpd x).ev ts) = some (sz, es)) (hl : boundOf ts 0 (lo.map compOpd) = some l) (hh : boundOf ts es.length (hi.map compOpd) = some h) (hmx : boundOf ts es.length (some (compOpd mx)) = some m) (h1 : l ≤ h) (h2 : h ≤ m) (h3 : m ≤ es.length)
    (hcap : ∀ base cap, a.eval x = .slice base es.length cap → es.length ≤ cap) (hm : MR O F w B mem) (ht : TR F w B ts a) : Goes P O F w B o a (.ret .any) mem := by
  obtain ⟨base, cap, ex, _, _⟩ := elemsW_ok hx hm (opd_ok ht x)
  have hc := hcap base cap ex
  have key : (execOp a.eval o).run P w = .ok (.value (.slice (if m = l then base else base.map (·.add (l * n))) (h - l) (m - l))) w := by
    have hb := bounds3 (P := P) (cap := cap) (w := w) ht hl hh hmx hne h1 h2 (by omega)
    simp only [execOp, ho, Instr.sliceAt, Instr.slice, Sem.run_bind, run_under hu, Result.andThen_ok, ex]
    simp only [Option.map_some, hb, Result.andThen_ok, run_size hn, Sem.run_pure]
  exact .pure key hm (.any _)

/-- A slice has room for what it has. -/
theorem cap_ge {x : AV} {sz : Nat} {es : List AV} {base : Option Addr} {n cap : Nat} (h : elemsW mem x = some (sz, es)) (hm : MR O F w B mem) (hv : VR F w B x (.slice base n cap)) (hn : n = es.length) : es.length ≤ cap := by
  by_cases hne : es = []
  · subst hne; simp
  unfold elemsW at h
  split at h
  · rename_i id off k
    split at h
    · rename_i t sz' es' hi
      cases h
      obtain ⟨g, p, N, xs, ey, h1, _⟩ := win_inv hi hm hv
      cases ey
      simp; omega
    · cases h
  · unfold elems at h
    split at h
    · cases h
      obtain ⟨b, c, e, _, _, hr⟩ := fsl_inv hv
      cases e
      exact (hr hne).1
    · rename_i id
      split at h
      · rename_i t sz es hi
        cases h
        obtain ⟨h1, h2, ⟨xs, h3, h4⟩, h5⟩ := own_inv hi hm hv
        rcases h3.2 with ⟨h6, h7⟩ | ⟨g, c, cur, h6, _, _, h7, _⟩
        · exact absurd (List.eq_nil_of_length_eq_zero h7) hne
        · cases h6; exact h7
      · rename_i sz es hi
        cases h
        obtain ⟨b, c, e, _, _, hr⟩ := fsl_inv (frz_fsl hi hm hv)
        cases e
        exact (hr hne).1
      · cases h
    · cases h; exact absurd rfl hne
    · cases h
end
end Go.Proofs.YtjmgnodeohmboaaDoor.Am
