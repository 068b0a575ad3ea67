/-
  THE ABSTRACT MACHINE, SEVENTH PART: appends, slices that are given away, and what a call is handed. No program is named here.
-/
import Derived.Test.YtjmgnodeohmboaaDoorAm5
namespace Go.Proofs.YtjmgnodeohmboaaDoor.Am
set_option linter.unusedSimpArgs false
set_option linter.unusedVariables false
open Go
section
variable {P : Program} {O F F' : Nat → Prop} {w w' : World} {B B' : List Loc} {ts : Nat → AV} {mem mem' : List Blk} {a : Act} {o : Oper}

/-- What an owned slice is. -/
theorem own_inv {id t sz : Nat} {es : List AV} {y : Value} (hi : mem[id]? = some (.arr t sz es)) (hm : MR O F w B mem) (hv : VR F w B (.osl id) y) :
    0 < sz ∧ (∀ e ∈ es, e.cells.length = sz) ∧ (∃ xs, w.ownsRow 0 t sz y es.length xs ∧ CR F w [] (AV.cellsAll es) xs) ∧ ∀ b, y.ownBlock = some b → ownB mem B id = some b := by
  have hlt := (List.getElem?_eq_some_iff.1 hi).1
  obtain ⟨l, hl⟩ : ∃ l, B[id]? = some l := ⟨_, List.getElem?_eq_getElem (by rw [hm.len]; exact hlt)⟩
  have hbr := hm.br id _ l hi hl
  match l, hbr, hl with
  | .arr sz' g n cap, ⟨h1, h2, h3, h4, h5⟩, hl =>
    subst h1; subst h3
    cases hv with
    | osl h =>
      rw [hl] at h; cases h
      exact ⟨h2, h4, h5, fun b hb => ownB_mk hi hl rfl (by cases g <;> simp [head, Value.ownBlock, Loc.block] at hb ⊢; exact hb)⟩

theorem ownB_forget {id : Nat} {j b : Nat} (h : ownB (mem.set id .gone) B j = some b) : j ≠ id ∧ ownB mem B j = some b := by
  obtain ⟨k', l', h1, h2, h3, h4⟩ := ownB_some h
  by_cases hij : id = j
  · subst hij
    by_cases hlt : id < mem.length
    · rw [List.getElem?_set_self hlt] at h1; cases h1; cases h3
    · rw [List.getElem?_eq_none (by simp; omega)] at h1; cases h1
  · rw [List.getElem?_set_ne hij] at h1
    exact ⟨fun e => hij e.symm, ownB_mk h1 h2 h3 h4⟩

theorem go_appG (s x : Operand) (t u e : TypeId) (i : TypeInfo) (z : Value) (id : Option Nat) (es es2 : List AV) (d : TypeDesc) (news : List Value) (m : Nat)
    (ho : o.op = .call { callee := .builtin .append, args := #[s, x], argTypes := #[t, u] }) (ht1 : P.underlying t = some (.slice e)) (hi : P.info? e = some i) (hz : i.zero = some z) (hzs : z.cells.size = i.size) (hsz : i.size ≠ 0)
    (hu : P.underlying u = some d) (hd : d = .string ∨ ∃ e', d = .slice e')
    (hs : (∃ k, id = some k ∧ (compOpd s).ev ts = .osl k ∧ mem[k]? = some (.arr e i.size es)) ∨ (id = none ∧ (compOpd s).ev ts = .v (.slice none 0 0) ∧ es = []))
    (hx1 : Builtin.lenOf (a.eval x) = pure m) (hx2 : ∀ w1 : World, w1.heap = w.heap → (Builtin.firstCells i.size m (a.eval x)).run P w1 = .ok news.toArray w1) (hl : news.length = m * i.size) (ho1 : ∀ u ∈ news, u.oneCell' = true)
    (hm2 : m = es2.length) (hc2 : CR F w [] (AV.cellsAll es2) news) (hs2 : ∀ e ∈ es2, e.cells.length = i.size)
    (h1 : (es.length + es2.length) * i.bytes ≤ 140737488355328) (h2 : es.length + es2.length ≤ 140737488355328)
    (hO : ∀ b, w.heap.size ≤ b → O b) (hm : MR O F w B mem) (ht : TR F w B ts a) :
    Goes P O F w B o a (.ret (.osl mem.length)) ((match id with | some k => mem.set k .gone | none => mem) ++ [.arr e i.size (es ++ es2)]) := by
  subst hm2
  have hv := opd_ok ht s
  rcases hs with ⟨k, rfl, hs, hk⟩ | ⟨rfl, hs, rfl⟩
  · rw [hs] at hv
    obtain ⟨q1, q2, ⟨xs, q3, q4⟩, q5⟩ := own_inv hk hm hv
    obtain ⟨v', w', r1, r2, r3, r4⟩ := run_app (ty := o.type) ht1 hi hz rfl rfl hzs hu hd q3 hx1 hx2 hl ho1 h1 h2
    have hmf := hm.forget k
    obtain ⟨l, m1, m2, m3, m4⟩ := own_append (O := O) (mem := mem.set k .gone) (row := (a.eval s).ownBlock) hmf hO q1 r2 r3 rfl rfl q4 hc2
      (fun e he => by rcases List.mem_append.1 he with he | he; exact q2 e he; exact hs2 e he)
      (fun b hb => by
        have hown := q5 b hb
        obtain ⟨g1, g2, _⟩ := hm.own k b hown
        exact ⟨g1, g2, fun j hj => by obtain ⟨g3, g4⟩ := ownB_forget hj; exact g3 (hm.sep j k b g4 hown)⟩)
      (fun b hb => r4 b hb)
    simp only [List.length_set] at m4
    refine .value (x := v') (w' := w') ?_ m1 m2 m3 (fun _ h => .inl h) m4
    simp only [execOp, ho, resolve, invoke, builtin, Sem.run_bind, Sem.run_pure, Result.andThen_ok, List.map_toArray, List.map_cons, List.map_nil, r1]
  · rw [hs] at hv
    have hv0 := hv.of_v
    have q3 : w.ownsRow 0 e i.size (a.eval s) 0 [] := by rw [hv0]; exact World.ownsRow_nil w 0 e i.size
    simp only [List.length_nil, Nat.zero_add] at h1 h2
    obtain ⟨v', w', r1, r2, r3, r4⟩ := run_app (ty := o.type) ht1 hi hz rfl rfl hzs hu hd q3 hx1 hx2 hl ho1 (by simpa using h1) (by simpa using h2)
    obtain ⟨l, m1, m2, m3, m4⟩ := own_append (O := O) (mem := mem) (row := (a.eval s).ownBlock) (es := []) hm hO (Nat.pos_of_ne_zero hsz) r2 r3 rfl rfl .nil hc2
      (fun e he => hs2 e (by simpa using he))
      (fun b hb => by rw [hv0] at hb; cases hb)
      (fun b hb => r4 b hb)
    refine .value (x := v') (w' := w') ?_ m1 m2 m3 (fun _ h => .inl h) m4
    simp only [execOp, ho, resolve, invoke, builtin, Sem.run_bind, Sem.run_pure, Result.andThen_ok, List.map_toArray, List.map_cons, List.map_nil, r1]

/-! ### Slices that are given away -/
def FI (F : Nat → Prop) (mem : List Blk) (B : List Loc) (ids : List Nat) : Nat → Prop := fun b => F b ∨ ∃ i ∈ ids, ownB mem B i = some b ∧ ∃ t sz es, mem[i]? = some (.arr t sz es)

theorem fsl_of_own {id t sz : Nat} {es : List AV} {y : Value} (hi : mem[id]? = some (.arr t sz es)) (hm : MR O F w B mem) (hv : VR F w B (.osl id) y) {G : Nat → Prop} (hG : ∀ b, F b → G b) (hGb : ∀ b, ownB mem B id = some b → G b) (B2 : List Loc) :
    VR G w B2 (.fsl sz es) y := by
  obtain ⟨q1, q2, ⟨xs, q3, q4⟩, q5⟩ := own_inv hi hm hv
  have e : Ext F G w w [] [] := ⟨hG, fun _ _ h => h, fun _ _ => rfl⟩
  rcases q3.2 with ⟨rfl, h0⟩ | ⟨g, cap, cur, rfl, _, hblk, hnc, _, hcs, htk⟩
  · have := List.eq_nil_of_length_eq_zero h0; subst this; exact .fslNil none 0
  · refine .fsl g 0 cap (q4.mono e) q2 (hGb g (q5 g rfl)) (fun j x hj => ?_) hnc
    have := q3.cells (g := g) rfl j x hj
    rwa [add_plain] at this

theorem MR.freeze (h : MR O F w B mem) (id : Nat) {G : Nat → Prop} (hG : ∀ b, G b ↔ F b ∨ (ownB mem B id = some b ∧ ∃ t sz es, mem[id]? = some (.arr t sz es))) : MR O G w B (mem.modify id Blk.freeze) := by
  have e : Ext F G w w B B := ⟨fun b hb => (hG b).2 (.inl hb), fun _ _ h => h, fun _ _ => rfl⟩
  have at_ : ∀ j b, (mem.modify id Blk.freeze)[j]? = some b → (j ≠ id ∧ mem[j]? = some b) ∨ (j = id ∧ ∃ b0, mem[id]? = some b0 ∧ b = b0.freeze) := by
    intro j b hj
    rw [List.getElem?_modify] at hj
    by_cases hij : id = j
    · subst hij
      right
      cases hb : mem[id]? with
      | none => simp [hb] at hj
      | some b0 => simp [hb] at hj; exact ⟨rfl, b0, rfl, hj.symm⟩
    · simp [hij] at hj; exact .inl ⟨fun e => hij e.symm, hj⟩
  have own_ : ∀ j b, ownB (mem.modify id Blk.freeze) B j = some b → ownB mem B j = some b ∧ ¬ (j = id ∧ ∃ t sz es, mem[id]? = some (.arr t sz es)) := by
    intro j b hj
    obtain ⟨k, l, h1, h2, h3, h4⟩ := ownB_some hj
    rcases at_ j k h1 with ⟨hne, h5⟩ | ⟨rfl, b0, h5, rfl⟩
    · exact ⟨ownB_mk h5 h2 h3 h4, fun hh => hne hh.1⟩
    · cases b0 with
      | arr t sz es => cases h3
      | var cs => exact ⟨ownB_mk h5 h2 rfl h4, fun ⟨_, t, sz, es, h6⟩ => by rw [h5] at h6; cases h6⟩
      | buf t sz es => exact ⟨ownB_mk h5 h2 rfl h4, fun ⟨_, t, sz, es, h6⟩ => by rw [h5] at h6; cases h6⟩
      | gone => cases h3
      | frz a => cases h3
  refine ⟨by simp [h.len], ?_, fun i j b hi hj => h.sep i j b (own_ i b hi).1 (own_ j b hj).1, ?_, ?_, h.gl.same fun b hb => (hG b).2 (.inl hb)⟩
  · intro j b l hj hl
    rcases at_ j b hj with ⟨hne, h5⟩ | ⟨rfl, b0, h5, rfl⟩
    · exact (h.br j b l h5 hl).mono e (fun _ _ _ => rfl)
    · cases b0 with
      | arr t sz es =>
        have hbr := h.br j _ l h5 hl
        match l, hbr, hl with
        | .arr sz' g n cap, hb, hl =>
          exact fsl_of_own h5 h (.osl hl) (fun b hb => (hG b).2 (.inl hb)) (fun b hb => (hG b).2 (.inr ⟨hb, t, sz, es, h5⟩)) []
      | var cs => exact (h.br j _ l h5 hl).mono e (fun _ _ _ => rfl)
      | buf t sz es => exact (h.br j _ l h5 hl).mono e (fun _ _ _ => rfl)
      | gone => trivial
      | frz a => exact (h.br j _ l h5 hl).mono e (fun _ _ _ => rfl)
  · intro j b hj
    obtain ⟨h1, h2⟩ := own_ j b hj
    obtain ⟨g1, g2, g3⟩ := h.own j b h1
    refine ⟨g1, fun hb => ?_, g3⟩
    rcases (hG b).1 hb with hb | ⟨hb, hh⟩
    · exact g2 hb
    · exact h2 ⟨h.sep j id b h1 hb, hh⟩
  · intro b hb
    rcases (hG b).1 hb with hb | ⟨hb, _⟩
    · exact h.fr b hb
    · exact (h.own id b hb).2.2

/-- Many slices are given away. -/
theorem MR.freezes' : ∀ (ids : List Nat) {F : Nat → Prop} {mem : List Blk}, MR O F w B mem →
    ∃ G : Nat → Prop, MR O G w B (freezeIds ids mem) ∧ (∀ b, F b → G b) ∧ (∀ b, G b → F b ∨ ∃ i, ownB mem B i = some b) ∧ (∀ id ∈ ids, ∀ b t sz es, mem[id]? = some (.arr t sz es) → ownB mem B id = some b → G b)
  | [], F, mem, h => ⟨F, h, fun _ h => h, fun _ h => .inl h, fun _ h => by cases h⟩
  | id :: ids, F, mem, h => by
    obtain ⟨G, g1, g2, g3, g4⟩ := MR.freezes' ids (h.freeze id (G := fun b => F b ∨ (ownB mem B id = some b ∧ ∃ t sz es, mem[id]? = some (.arr t sz es))) (fun _ => Iff.rfl))
    refine ⟨G, g1, fun b hb => g2 b (.inl hb), fun b hb => ?_, fun j hj b t sz es hmj hown => ?_⟩
    · rcases g3 b hb with hb | ⟨i, hb⟩
      · rcases hb with hb | ⟨hb, _⟩
        · exact .inl hb
        · exact .inr ⟨id, hb⟩
      · obtain ⟨k, l, h1, h2, h3, h4⟩ := ownB_some hb
        rw [List.getElem?_modify] at h1
        by_cases hij : id = i
        · subst hij
          cases hm : mem[id]? with
          | none => simp [hm] at h1
          | some b0 =>
            simp [hm] at h1
            refine .inr ⟨id, ownB_mk hm h2 ?_ h4⟩
            cases b0 <;> simp [Blk.freeze] at h1 <;> subst h1 <;> first | exact h3 | rfl
        · simp [hij] at h1
          exact .inr ⟨i, ownB_mk h1 h2 h3 h4⟩
    · by_cases hji : j = id
      · subst hji; exact g2 b (.inr ⟨hown, t, sz, es, hmj⟩)
      · cases hj with
        | head => exact absurd rfl hji
        | tail _ hj =>
          have hk : (mem.modify id Blk.freeze)[j]? = some (.arr t sz es) := by rw [List.getElem?_modify]; simp [Ne.symm hji, hmj]
          refine g4 j hj b t sz es hk ?_
          obtain ⟨k, l, h1, h2, h3, h4⟩ := ownB_some hown
          rw [hmj] at h1; cases h1
          exact ownB_mk hk h2 rfl h4

theorem MR.freezes (ids : List Nat) {F : Nat → Prop} {mem : List Blk} (h : MR O F w B mem) :
    ∃ G : Nat → Prop, MR O G w B (freezeIds ids mem) ∧ (∀ b, F b → G b) ∧ (∀ b, G b → F b ∨ O b) ∧ (∀ id ∈ ids, ∀ b t sz es, mem[id]? = some (.arr t sz es) → ownB mem B id = some b → G b) := by
  obtain ⟨G, g1, g2, g3, g4⟩ := MR.freezes' ids h
  refine ⟨G, g1, g2, fun b hb => ?_, g4⟩
  rcases g3 b hb with hb | ⟨i, hb⟩
  · exact .inl hb
  · exact .inr (h.own i b hb).1

theorem up {G : Nat → Prop} (hG : ∀ b, F b → G b) {x : AV} {y : Value} (h : VR F w B x y) : VR G w B x y := h.mono ⟨hG, fun _ _ h => h, fun _ _ => rfl⟩

mutual
theorem frz_ok {G : Nat → Prop} (hm : MR O F w B mem) (hG : ∀ b, F b → G b) : ∀ (x : AV) (y : Value), VR F w B x y → (∀ id ∈ x.slices, ∀ b t sz es, mem[id]? = some (.arr t sz es) → ownB mem B id = some b → G b) → VR G w B (x.frz mem) y
  | .any, y, h, _ => by simpa [AV.frz] using up hG h
  | .agg cs, y, h, hs => by
    obtain ⟨vs, rfl, hc⟩ := h.of_agg
    simp only [AV.frz]
    exact .agg (frzAll_ok hm hG cs vs hc (by simpa [AV.slices] using hs))
  | .tup cs, y, h, hs => by
    obtain ⟨vs, rfl, hc⟩ := h.of_tup
    simp only [AV.frz]
    exact .tup (frzAll_ok hm hG cs vs hc (by simpa [AV.slices] using hs))
  | .v v, y, h, _ => by
    have := h.of_v
    subst this
    unfold AV.frz
    split
    · rename_i heq; cases heq
    · rename_i heq; cases heq
    · rename_i heq; cases heq
    · rename_i heq; cases heq; exact .fslNil none 0
    · exact .v _
  | .fsl sz es, y, h, _ => by simpa [AV.frz] using up hG h
  | .osl id, y, h, hs => by
    unfold AV.frz
    split
    · rename_i t sz es hi
      exact fsl_of_own hi hm h hG (fun b hb => hs id (by simp [AV.slices]) b t sz es hi hb) B
    · rename_i a hi
      have hlt := (List.getElem?_eq_some_iff.1 hi).1
      obtain ⟨l, hl⟩ : ∃ l, B[id]? = some l := ⟨_, List.getElem?_eq_getElem (by rw [hm.len]; exact hlt)⟩
      have hbr := hm.br id _ l hi hl
      match l, hbr, hl with
      | .arr sz' g n cap, hb, hl =>
        cases h with
        | osl h => rw [hl] at h; cases h; exact up hG (bare_up hb)
    · exact up hG h
  | .ptr .., y, h, _ => by simpa [AV.frz] using up hG h
  | .fptr .., y, h, _ => by simpa [AV.frz] using up hG h
  | .win .., y, h, _ => by simpa [AV.frz] using up hG h
  | .fn .., y, h, _ => by simpa [AV.frz] using up hG h
  | .ifc .., y, h, _ => by simpa [AV.frz] using up hG h
theorem frzAll_ok {G : Nat → Prop} (hm : MR O F w B mem) (hG : ∀ b, F b → G b) : ∀ (xs : List AV) (ys : List Value), CR F w B xs ys → (∀ id ∈ AV.slicesAll xs, ∀ b t sz es, mem[id]? = some (.arr t sz es) → ownB mem B id = some b → G b) → CR G w B (AV.frzAll mem xs) ys
  | [], ys, h, _ => by cases h; exact .nil
  | x :: xs, ys, h, hs => by
    cases h with
    | cons h t =>
      simp only [AV.slicesAll, List.mem_append] at hs
      exact .cons (frz_ok hm hG x _ h (fun id hid => hs id (.inl hid))) (frzAll_ok hm hG xs _ t (fun id hid => hs id (.inr hid)))
end

mutual
theorem mapId_ok {f : Nat → Nat} {B1 : List Loc} : ∀ (x : AV) (y : Value), VR F w B x y → (∀ i ∈ x.ids, ∀ l, B[i]? = some l → B1[f i]? = some l) → VR F w B1 (x.mapId f) y
  | .any, y, h, _ => by simp only [AV.mapId]; exact .any y
  | .v v, y, h, _ => by have := h.of_v; subst this; simp only [AV.mapId]; exact .v _
  | .agg cs, y, h, hi => by obtain ⟨vs, rfl, hc⟩ := h.of_agg; simp only [AV.mapId]; exact .agg (mapIdAll_ok cs vs hc (by simpa only [AV.ids] using hi))
  | .tup cs, y, h, hi => by obtain ⟨vs, rfl, hc⟩ := h.of_tup; simp only [AV.mapId]; exact .tup (mapIdAll_ok cs vs hc (by simpa only [AV.ids] using hi))
  | .fn f cs, y, h, hi => by obtain ⟨vs, rfl, hc⟩ := h.of_fn; simp only [AV.mapId]; exact .fn (mapIdAll_ok cs vs hc (by simpa only [AV.ids] using hi))
  | .ifc t c, y, h, hi => by obtain ⟨z, rfl, hc⟩ := h.of_ifc; simp only [AV.mapId]; exact .ifc (mapId_ok c z hc (by simpa only [AV.ids] using hi))
  | .fsl sz es, y, h, _ => by
    simp only [AV.mapId]
    cases h with
    | fslNil b c => exact .fslNil b c
    | fsl b p c h1 h2 h3 h4 h5 => exact .fsl b p c h1 h2 h3 h4 h5
  | .fptr e k, y, h, _ => by
    simp only [AV.mapId]
    cases h with
    | fptr b p k h1 h2 h3 => exact .fptr b p k h1 h2 h3
  | .osl id, y, h, hi => by
    simp only [AV.mapId]
    cases h with
    | osl h => exact .osl (hi id (by simp [AV.ids]) _ h)
  | .win id off n, y, h, hi => by
    simp only [AV.mapId]
    cases h with
    | win h hc hp => exact .win (hi id (by simp [AV.ids]) _ h) hc hp
  | .ptr id i k, y, h, hi => by
    simp only [AV.mapId]
    cases h with
    | ptrV h => exact .ptrV (hi id (by simp [AV.ids]) _ h)
    | ptrA h => exact .ptrA (hi id (by simp [AV.ids]) _ h)
theorem mapIdAll_ok {f : Nat → Nat} {B1 : List Loc} : ∀ (xs : List AV) (ys : List Value), CR F w B xs ys → (∀ i ∈ AV.idsAll xs, ∀ l, B[i]? = some l → B1[f i]? = some l) → CR F w B1 (AV.mapIdAll f xs) ys
  | [], ys, h, _ => by cases h; exact .nil
  | x :: xs, ys, h, hi => by
    cases h with
    | cons h t =>
      simp only [AV.idsAll, List.mem_append] at hi
      exact .cons (mapId_ok x _ h (fun i h => hi i (.inl h))) (mapIdAll_ok xs _ t (fun i h => hi i (.inr h)))
end

mutual
theorem res_ok (hm : MR O F w B mem) : ∀ (x : AV) (y : Value), VR F w B x y → VR F w B (x.res mem) y
  | .any, y, h => by simpa only [AV.res] using h
  | .v v, y, h => by
    have := h.of_v; subst this
    simp only [AV.res]
    split
    · exact .fslNil none 0
    · exact .v _
  | .agg cs, y, h => by obtain ⟨vs, rfl, hc⟩ := h.of_agg; simp only [AV.res]; exact .agg (resAll_ok hm cs vs hc)
  | .tup cs, y, h => by obtain ⟨vs, rfl, hc⟩ := h.of_tup; simp only [AV.res]; exact .tup (resAll_ok hm cs vs hc)
  | .fn f cs, y, h => by obtain ⟨vs, rfl, hc⟩ := h.of_fn; simp only [AV.res]; exact .fn (resAll_ok hm cs vs hc)
  | .ifc t c, y, h => by obtain ⟨z, rfl, hc⟩ := h.of_ifc; simp only [AV.res]; exact .ifc (res_ok hm c z hc)
  | .fsl sz es, y, h => by simpa only [AV.res] using h
  | .fptr e k, y, h => by simpa only [AV.res] using h
  | .win id off n, y, h => by simpa only [AV.res] using h
  | .osl id, y, h => by
    simp only [AV.res]
    split
    · rename_i a hi
      have hlt := (List.getElem?_eq_some_iff.1 hi).1
      obtain ⟨l, hl⟩ : ∃ l, B[id]? = some l := ⟨_, List.getElem?_eq_getElem (by rw [hm.len]; exact hlt)⟩
      have hbr := hm.br id _ l hi hl
      match l, hbr, hl with
      | .arr sz' g n cap, hb, hl =>
        cases h with
        | osl h => rw [hl] at h; cases h; exact bare_up hb
    · exact h
  | .ptr id i k, y, h => by simpa only [AV.res] using h
theorem resAll_ok (hm : MR O F w B mem) : ∀ (xs : List AV) (ys : List Value), CR F w B xs ys → CR F w B (AV.resAll mem xs) ys
  | [], ys, h => by cases h; exact .nil
  | x :: xs, ys, h => by
    cases h with
    | cons h t => exact .cons (res_ok hm x _ h) (resAll_ok hm xs _ t)
end

theorem prepA_ok (hm : MR O F w B mem) : ∀ (ms : List Bool) (xs : List AV) (ys : List Value), CR F w B xs ys → CR F w B (prepA mem ms xs) ys
  | [], xs, ys, h => by simp only [prepA]; exact resAll_ok hm xs ys h
  | true :: ms, [], ys, h => by cases h; exact .nil
  | false :: ms, [], ys, h => by cases h; exact .nil
  | true :: ms, x :: xs, ys, h => by cases h with | cons h t => exact .cons h (prepA_ok hm ms xs _ t)
  | false :: ms, x :: xs, ys, h => by cases h with | cons h t => exact .cons (res_ok hm x _ h) (prepA_ok hm ms xs _ t)

theorem freezeIds_length : ∀ (ids : List Nat) (mem : List Blk), (freezeIds ids mem).length = mem.length
  | [], _ => rfl
  | i :: is, mem => by simp only [freezeIds]; rw [freezeIds_length is]; simp

theorem BR.mapId {f : Nat → Nat} {B1 : List Loc} {b : Blk} {l : Loc} (h : BR F w B b l) (hi : ∀ i ∈ b.ids, ∀ l, B[i]? = some l → B1[f i]? = some l) : BR F w B1 (b.mapId f) l := by
  match b, l, h with
  | .gone, _, _ => trivial
  | .var cs, .var b, ⟨t, xs, h1, h2⟩ => exact ⟨t, xs, h1, mapIdAll_ok cs xs h2 hi⟩
  | .arr t sz es, .arr sz' g n cap, h => exact h
  | .frz a, .arr _ g n cap, h => exact h
  | .buf t sz es, .arr sz' g n cap, h => exact h

theorem Blk.own_mapId {f : Nat → Nat} (b : Blk) : (b.mapId f).own = b.own := by cases b <;> rfl

theorem idx_at {ids : List Nat} {i : Nat} (hi : i ∈ ids) : ids[idx ids i]? = some i := by
  unfold idx
  rw [List.getElem?_eq_getElem (List.idxOf_lt_length_iff.2 hi)]
  simp

theorem nodup_at : ∀ {l : List Nat} {i j a : Nat}, l.Nodup → l[i]? = some a → l[j]? = some a → i = j
  | [], i, j, a, _, h, _ => by simp at h
  | x :: l, i, j, a, hn, h1, h2 => by
    rw [List.nodup_cons] at hn
    cases i with
    | zero => cases j with
      | zero => rfl
      | succ j => simp at h1 h2; subst h1; exact absurd (List.mem_of_getElem? h2) hn.1
    | succ i => cases j with
      | zero => simp at h1 h2; subst h2; exact absurd (List.mem_of_getElem? h1) hn.1
      | succ j => simp at h1 h2; rw [nodup_at hn.2 h1 h2]

theorem subOk_spec {ids named : List Nat} (h : subOk ids mem named = true) : ids.Nodup ∧ (∀ i ∈ ids, i < mem.length) ∧ (∀ i ∈ named, i ∈ ids) ∧ ∀ i ∈ ids, ∀ b, mem[i]? = some b → ∀ j ∈ b.ids, j ∈ ids := by
  simp only [subOk, Bool.and_eq_true, decide_eq_true_eq, List.all_eq_true, List.contains_iff_mem] at h
  refine ⟨h.1.1.1, h.1.1.2, h.1.2, fun i hi b hb j hj => h.2 i hi j ?_⟩
  rw [List.getD_eq_getElem?_getD, hb]; exact hj

def subB (ids : List Nat) (B : List Loc) : List Loc := ids.map fun i => B.getD i (.var 0)

theorem subB_idx {ids : List Nat} {i : Nat} {l : Loc} (hi : i ∈ ids) (hl : B[i]? = some l) : (subB ids B)[idx ids i]? = some l := by
  simp [subB, idx_at hi, List.getD_eq_getElem?_getD, hl]

/-- Some of the blocks, by themselves. -/
theorem MR.sub {O1 : Nat → Prop} {ids named : List Nat} (hm : MR O F w B mem) (hs : subOk ids mem named = true) (hO1 : ∀ i ∈ ids, ∀ b, ownB mem B i = some b → O1 b) : MR O1 F w (subB ids B) (subM ids mem) := by
  obtain ⟨h1, h2, h3, h4⟩ := subOk_spec hs
  have at_ : ∀ (j : Nat) (b : Blk), (subM ids mem)[j]? = some b → ∃ i b0 l, ids[j]? = some i ∧ mem[i]? = some b0 ∧ B[i]? = some l ∧ b = b0.mapId (idx ids) ∧ (subB ids B)[j]? = some l := by
    intro j b hj
    simp only [subM, List.getElem?_map] at hj
    cases hi : ids[j]? with
    | none => simp [hi] at hj
    | some i =>
      have hmem := List.mem_of_getElem? hi
      have hlt := h2 i hmem
      obtain ⟨b0, hb0⟩ : ∃ b, mem[i]? = some b := ⟨_, List.getElem?_eq_getElem hlt⟩
      obtain ⟨l, hl⟩ : ∃ l, B[i]? = some l := ⟨_, List.getElem?_eq_getElem (by rw [hm.len]; exact hlt)⟩
      simp only [hi, Option.map_some, Option.some.injEq, List.getD_eq_getElem?_getD, hb0, Option.getD_some] at hj
      exact ⟨i, b0, l, rfl, hb0, hl, hj.symm, by simp [subB, hi, List.getD_eq_getElem?_getD, hl]⟩
  have own_ : ∀ j b, ownB (subM ids mem) (subB ids B) j = some b → ∃ i, ids[j]? = some i ∧ ownB mem B i = some b := by
    intro j b hj
    obtain ⟨k, l, q1, q2, q3, q4⟩ := ownB_some hj
    obtain ⟨i, b0, l', g1, g2, g3, g4, g5⟩ := at_ j k q1
    rw [q2] at g5; cases g5
    subst g4
    exact ⟨i, g1, ownB_mk g2 g3 (by rwa [Blk.own_mapId] at q3) q4⟩
  refine ⟨by simp [subB, subM], ?_, ?_, ?_, hm.fr, hm.gl⟩
  · intro j b l hj hl
    obtain ⟨i, b0, l', g1, g2, g3, g4, g5⟩ := at_ j b hj
    rw [hl] at g5; cases g5
    subst g4
    exact (hm.br i b0 l g2 g3).mapId (fun k hk l' hl' => subB_idx (h4 i (List.mem_of_getElem? g1) b0 g2 k hk) hl')
  · intro j j' b hj hj'
    obtain ⟨i, g1, g2⟩ := own_ j b hj
    obtain ⟨i', g3, g4⟩ := own_ j' b hj'
    have := hm.sep i i' b g2 g4
    subst this
    exact nodup_at h1 g1 g3
  · intro j b hj
    obtain ⟨i, g1, g2⟩ := own_ j b hj
    obtain ⟨q1, q2, q3⟩ := hm.own i b g2
    exact ⟨hO1 i (List.mem_of_getElem? g1) b g2, q2, q3⟩

theorem putM_at : ∀ (ids : List Nat) (bs mem : List Blk), ids.Nodup → ids.length = bs.length → ∀ i b, (putM ids bs mem)[i]? = some b → (i ∉ ids ∧ mem[i]? = some b) ∨ ∃ j : Nat, ids[j]? = some i ∧ bs[j]? = some b
  | [], bs, mem, _, _, i, b, h => .inl ⟨by simp, by simpa [putM] using h⟩
  | i0 :: is, [], mem, _, hl, i, b, h => by simp at hl
  | i0 :: is, b0 :: bs, mem, hn, hl, i, b, h => by
    rw [List.nodup_cons] at hn
    simp only [putM] at h
    rcases putM_at is bs _ hn.2 (by simpa using hl) i b h with ⟨h1, h2⟩ | ⟨j, h1, h2⟩
    · by_cases hi : i0 = i
      · subst hi
        by_cases hlt : i0 < mem.length
        · rw [List.getElem?_set_self hlt] at h2; exact .inr ⟨0, rfl, h2⟩
        · rw [List.getElem?_eq_none (by simp; omega)] at h2; cases h2
      · rw [List.getElem?_set_ne hi] at h2
        exact .inl ⟨by simp [h1, Ne.symm hi], h2⟩
    · exact .inr ⟨j + 1, by simpa using h1, by simpa using h2⟩

theorem putM_length : ∀ (ids : List Nat) (bs mem : List Blk), (putM ids bs mem).length = mem.length
  | [], _, _ => rfl
  | _ :: _, [], _ => rfl
  | i :: is, b :: bs, mem => by simp only [putM]; rw [putM_length is bs]; simp

/-- What a callee leaves goes back to its places, and what is new behind all others. -/
theorem MR.merge {O1 F1 : Nat → Prop} {B1 : List Loc} {mo : List Blk} {ids named : List Nat} (hm : MR O F w B mem) (hsub : subOk ids mem named = true) (ho : MR O1 F1 w' B1 mo) (hk : ids.length ≤ mo.length)
    (hB1 : ∀ (j : Nat) (l : Loc), (subB ids B)[j]? = some l → B1[j]? = some l) (hO1 : ∀ b, O1 b → (∃ i ∈ ids, ownB mem B i = some b) ∨ w.heap.size ≤ b)
    (hF : ∀ b, F b → F1 b) (hF1 : ∀ b, F1 b → F b ∨ O1 b) (hs : w.heap.size ≤ w'.heap.size) (hblk : ∀ b, b < w.heap.size → ¬ O1 b → w'.heap[b]? = w.heap[b]?) (hO : ∀ b, O1 b → O b) :
    MR O F1 w' (B ++ B1.drop ids.length) (putM ids ((mo.take ids.length).map (Blk.mapId (back ids mem.length))) mem ++ (mo.drop ids.length).map (Blk.mapId (back ids mem.length))) ∧
    (∀ (j : Nat) (l : Loc), B1[j]? = some l → (B ++ B1.drop ids.length)[back ids mem.length j]? = some l) ∧ Ext F F1 w w' B (B ++ B1.drop ids.length) := by
  obtain ⟨h1, h2, h3, h4⟩ := subOk_spec hsub
  have hl := hm.len
  have hl1 := ho.len
  have notO : ∀ b, F b → ¬ O1 b := fun b hb hob => by
    rcases hO1 b hob with ⟨i, _, hi⟩ | hi
    · exact (hm.own i b hi).2.1 hb
    · have := hm.fr b hb; omega
  have e : Ext F F1 w w' B (B ++ B1.drop ids.length) := ⟨hF, (ext_append F w B _).pl, fun b hb => hblk b (hm.fr b hb) (notO b hb)⟩
  have pl : ∀ (j : Nat) (l : Loc), B1[j]? = some l → (B ++ B1.drop ids.length)[back ids mem.length j]? = some l := by
    intro j l hj
    unfold back
    split
    · rename_i hlt
      have hi : ids[j]? = some ids[j] := List.getElem?_eq_getElem hlt
      have hmem : ids[j] ∈ ids := List.getElem_mem hlt
      have hb : ids[j] < B.length := by rw [hl]; exact h2 _ hmem
      have := hB1 j B[ids[j]] (by simp [subB, hi, List.getD_eq_getElem?_getD, List.getElem?_eq_getElem hb])
      rw [hj] at this; cases this
      rw [List.getD_eq_getElem?_getD, hi, Option.getD_some, List.getElem?_append_left hb, List.getElem?_eq_getElem hb]
    · rename_i hge
      rw [List.getElem?_append_right (by omega), List.getElem?_drop]
      rw [← hj]; congr 1; omega
  have at_ : ∀ (n : Nat) (b : Blk), (putM ids ((mo.take ids.length).map (Blk.mapId (back ids mem.length))) mem ++ (mo.drop ids.length).map (Blk.mapId (back ids mem.length)))[n]? = some b →
      (n ∉ ids ∧ mem[n]? = some b) ∨ ∃ j b0, mo[j]? = some b0 ∧ b = b0.mapId (back ids mem.length) ∧ n = back ids mem.length j := by
    intro n b hn
    by_cases hlt : n < mem.length
    · rw [List.getElem?_append_left (by rw [putM_length]; exact hlt)] at hn
      rcases putM_at ids _ mem h1 (by simp; omega) n b hn with hh | ⟨j, g1, g2⟩
      · exact .inl hh
      · have hj := (List.getElem?_eq_some_iff.1 g1).1
        rw [List.getElem?_map, List.getElem?_take] at g2
        simp only [hj, if_true] at g2
        cases hmo : mo[j]? with
        | none => simp [hmo] at g2
        | some b0 =>
          simp [hmo] at g2
          refine .inr ⟨j, b0, hmo, g2.symm, ?_⟩
          unfold back; rw [if_pos hj, List.getD_eq_getElem?_getD, g1, Option.getD_some]
    · rw [List.getElem?_append_right (by rw [putM_length]; omega), putM_length, List.getElem?_map, List.getElem?_drop] at hn
      cases hmo : mo[ids.length + (n - mem.length)]? with
      | none => simp [hmo] at hn
      | some b0 =>
        simp [hmo] at hn
        refine .inr ⟨_, b0, hmo, hn.symm, ?_⟩
        unfold back; rw [if_neg (by omega)]; omega
  have own_ : ∀ n b, ownB (putM ids ((mo.take ids.length).map (Blk.mapId (back ids mem.length))) mem ++ (mo.drop ids.length).map (Blk.mapId (back ids mem.length))) (B ++ B1.drop ids.length) n = some b →
      (n ∉ ids ∧ ownB mem B n = some b) ∨ ∃ j, ownB mo B1 j = some b ∧ n = back ids mem.length j := by
    intro n b hn
    obtain ⟨k, l, q1, q2, q3, q4⟩ := ownB_some hn
    rcases at_ n k q1 with ⟨g1, g2⟩ | ⟨j, b0, g1, g2, g3⟩
    · have hlt := (List.getElem?_eq_some_iff.1 g2).1
      rw [List.getElem?_append_left (by omega)] at q2
      exact .inl ⟨g1, ownB_mk g2 q2 q3 q4⟩
    · subst g2
      have hj := (List.getElem?_eq_some_iff.1 g1).1
      have hb1 : B1[j]? = some B1[j] := List.getElem?_eq_getElem (by omega)
      have := pl j _ hb1
      rw [← g3, q2] at this
      cases this
      exact .inr ⟨j, ownB_mk g1 hb1 (by rwa [Blk.own_mapId] at q3) q4, g3⟩
  have apart : ∀ n b, n ∉ ids → ownB mem B n = some b → ¬ O1 b := fun n b hn hb hob => by
    rcases hO1 b hob with ⟨i, hi, hib⟩ | hge
    · exact hn (hm.sep n i b hb hib ▸ hi)
    · have := (hm.own n b hb).2.2; omega
  refine ⟨⟨by simp [putM_length, hl, hl1], ?_, ?_, ?_, ho.fr, ho.gl⟩, pl, e⟩
  · intro n b l hn hl'
    rcases at_ n b hn with ⟨g1, g2⟩ | ⟨j, b0, g1, g2, g3⟩
    · have hlt := (List.getElem?_eq_some_iff.1 g2).1
      rw [List.getElem?_append_left (by omega)] at hl'
      refine (hm.br n b l g2 hl').mono e (fun hown k hkk => ?_)
      have hob := ownB_mk g2 hl' hown hkk
      exact hblk k (hm.own n k hob).2.2 (apart n k g1 hob)
    · subst g2
      have hj := (List.getElem?_eq_some_iff.1 g1).1
      have hb1 : B1[j]? = some B1[j] := List.getElem?_eq_getElem (by omega)
      have := pl j _ hb1
      rw [← g3, hl'] at this
      cases this
      exact (ho.br j b0 _ g1 hb1).mapId (fun i _ l hl => pl i l hl)
  · intro n n' b hn hn'
    rcases own_ n b hn with ⟨g1, g2⟩ | ⟨j, g1, g2⟩ <;> rcases own_ n' b hn' with ⟨q1, q2⟩ | ⟨j', q1, q2⟩
    · exact hm.sep n n' b g2 q2
    · exact absurd (ho.own j' b q1).1 (apart n b g1 g2)
    · exact absurd (ho.own j b g1).1 (apart n' b q1 q2)
    · rw [g2, q2, ho.sep j j' b g1 q1]
  · intro n b hn
    rcases own_ n b hn with ⟨g1, g2⟩ | ⟨j, g1, g2⟩
    · obtain ⟨p1, p2, p3⟩ := hm.own n b g2
      refine ⟨p1, fun hb => ?_, by omega⟩
      rcases hF1 b hb with hb | hb
      · exact p2 hb
      · exact apart n b g1 g2 hb
    · obtain ⟨p1, p2, p3⟩ := ho.own j b g1
      exact ⟨hO b p1, p2, p3⟩

theorem go_call (Γ : Env) (hΓ : EnvOk P Γ) (f : FuncId) (args : List AV) (vs : List Value) (r : Res)
    (hrun : (execOp a.eval o).run P w = (callFunc f vs.toArray).run P w) (hc : callA Γ mem f args = some (r, mem'))
    (hO : ∀ b, w.heap.size ≤ b → O b) (hm : MR O F w B mem) (ha : CR F w B args vs) : Goes P O F w B o a r mem' := by
  unfold callA at hc
  cases hg : Γ f with
  | none => simp [hg] at hc
  | some p =>
    obtain ⟨ms, sp⟩ := p
    simp only [hg] at hc
    obtain ⟨G, m1, hFG, hGO, hfr⟩ := MR.freezes (fzOf ms args) hm
    have ha1 : CR G w B (prepA (freezeIds (fzOf ms args) mem) ms args) vs := prepA_ok m1 ms args vs (ha.mono ⟨hFG, fun _ _ h => h, fun _ _ => rfl⟩)
    generalize freezeIds (fzOf ms args) mem = mem1 at hc m1 ha1
    generalize prepA mem1 ms args = as at hc ha1
    generalize closeIds mem1 3 (addNew [] (AV.idsAll as)) = ids at hc
    unfold callB at hc
    split at hc
    case isFalse => cases hc
    rename_i hsub
    obtain ⟨h1, h2, h3, h4⟩ := subOk_spec hsub
    have ha2 : CR G w (subB ids B) (AV.mapIdAll (idx ids) as) vs := mapIdAll_ok as vs ha1 (fun i hi l hl => subB_idx (h3 i hi) hl)
    split at hc
    case h_2 => cases hc
    rename_i r0 mo hsp
    split at hc
    case isFalse => cases hc
    rename_i hlen
    simp only [Option.some.injEq, Prod.mk.injEq] at hc
    obtain ⟨hr, hmem⟩ := hc
    intro K Q hK
    unfold Oper.wp
    rw [hrun]
    rcases hΓ f ms sp hg with ⟨⟨fn, hf1, hf2, hf3⟩, hok⟩ | hext | hextM
    case inr.inl =>
      obtain ⟨e1, e2, v, e3, e4⟩ := hext _ _ _ _ hsp
      subst e2; subst e3
      have hids : ids = [] := by simpa [subM] using e1
      subst hids
      obtain ⟨x, e5, e6⟩ := e4 G w vs (by simpa [subB] using ha2)
      rw [e5]
      subst hr
      simp [putM] at hmem
      subst hmem
      exact hK x w G B m1 ⟨hFG, fun _ _ h => h, fun _ _ => rfl⟩ (.refl O w) hGO (mapId_ok v x e6 (fun i _ l hl => by simp at hl))
    case inr.inr =>
      obtain ⟨e1, v, e3, e4⟩ := hextM _ _ _ _ hsp
      subst e1; subst e3
      have hO1 : ∀ b, ((∃ i ∈ ids, ownB mem1 B i = some b) ∨ w.heap.size ≤ b) → O b := fun b hb => by
        rcases hb with ⟨i, _, hb⟩ | hb
        · exact (m1.own i b hb).1
        · exact hO b hb
      have hsm := m1.sub (O1 := fun b => (∃ i ∈ ids, ownB mem1 B i = some b) ∨ w.heap.size ≤ b) hsub (fun i hi b hb => .inl ⟨i, hi, hb⟩)
      obtain ⟨x, e5, e6⟩ := e4 _ G (subB ids B) w vs hsm ha2
      rw [e5]
      subst hr
      subst hmem
      obtain ⟨j1, j2, j3⟩ := m1.merge hsub hsm hlen (fun _ _ h => h) (fun b hb => hb) (fun _ h => h) (fun _ h => .inl h) (Nat.le_refl _) (fun _ _ _ => rfl) hO1
      exact hK x w G _ j1 ⟨hFG, j3.pl, fun _ _ => rfl⟩ (.refl O w) hGO (mapId_ok v x e6 (fun i _ l hl => j2 i l hl))
    have hrun2 : (callFunc f vs.toArray).run P w = .ok (.enter f vs.toArray) w := by
      have hbn : fn.body ≠ none := by intro hb; simp [hb] at hf2
      have hne : fn.name ≠ "runtime.NumGoroutine" := by simpa using hf3
      simp [callFunc, hf1, hne, hbn]
    rw [hrun2]
    have hO1 : ∀ b, ((∃ i ∈ ids, ownB mem1 B i = some b) ∨ w.heap.size ≤ b) → O b := fun b hb => by
      rcases hb with ⟨i, _, hb⟩ | hb
      · exact (m1.own i b hb).1
      · exact hO b hb
    have hmain := hok _ _ r0 mo hsp (fun b => (∃ i ∈ ids, ownB mem1 B i = some b) ∨ w.heap.size ≤ b) G (subB ids B) w vs (fun _ h => .inr h) (m1.sub hsub (fun i hi b hb => .inl ⟨i, hi, hb⟩)) ha2
    refine hmain.mono ?_
    rintro e w' ⟨F', B', q1, q2, q3, q4, q5⟩
    obtain ⟨j1, j2, j3⟩ := m1.merge hsub q1 hlen q2.pl (fun b hb => hb) q2.fr q4 q3.size (fun b hb hob => q3.block b hb hob) hO1
    have hev : Ev O w w' := ⟨q3.os, q3.tape, q3.output, q3.size, fun b hb hob => q3.block b hb (fun hh => hob (hO1 b hh))⟩
    have hext2 : Ext F F' w w' B (B ++ B'.drop ids.length) := ⟨fun b hb => j3.fr b (hFG b hb), j3.pl, fun b hb => j3.hp b (hFG b hb)⟩
    have hFO : ∀ b, F' b → F b ∨ O b := fun b hb => by
      rcases q4 b hb with hb | hb
      · exact hGO b hb
      · exact .inr (hO1 b hb)
    subst hmem
    subst hr
    match r0, e, q5 with
    | .ret v, .returned x, h => exact hK x w' F' _ j1 hext2 hev hFO (mapId_ok v x h (fun i _ l hl => j2 i l hl))
    | .pan v, .panicked ch, ⟨pv, g1, g2⟩ =>
      subst g1
      exact hK pv w' F' _ j1 hext2 hev hFO (mapId_ok v pv g2 (fun i _ l hl => j2 i l hl))

end
end Go.Proofs.YtjmgnodeohmboaaDoor.Am
