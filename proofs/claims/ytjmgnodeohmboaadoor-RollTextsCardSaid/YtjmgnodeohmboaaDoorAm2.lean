/-
  THE ABSTRACT MACHINE, THIRD PART: the operations that write nothing are what the model's are. No program is named here.
-/
import Derived.Test.YtjmgnodeohmboaaDoorAm1
namespace Go.Proofs.YtjmgnodeohmboaaDoor.Am
set_option linter.unusedSimpArgs false
set_option linter.unusedVariables false
open Go

/-- What a contract says: called so, the function comes back (or panics) so. -/
def RelRes (F : Nat → Prop) (w : World) (B : List Loc) : Res → Ending → Prop
  | .ret a, .returned x => VR F w B a x
  | .pan a, .panicked ch => ∃ x, ch = [{ v := x, recovered := false }] ∧ VR F w B a x
  | _, _ => False

def Ok (P : Program) (f : FuncId) (sp : Spec) : Prop :=
  ∀ (args : List AV) (mem : List Blk) (r : Res) (mem' : List Blk), sp args mem = some (r, mem') → ∀ (O F : Nat → Prop) (B : List Loc) (w : World) (vs : List Value), (∀ b, w.heap.size ≤ b → O b) → MR O F w B mem → CR F w B args vs →
    Calls P f vs.toArray w fun e w' => ∃ (F' : Nat → Prop) (B' : List Loc), MR O F' w' B' mem' ∧ Ext F F' w w' B B' ∧ Ev O w w' ∧ (∀ b, F' b → F b ∨ O b) ∧ RelRes F' w' B' r e

/-- The function has a body that a call enters. -/
def Enters (P : Program) (f : FuncId) : Prop := ∃ fn, P.funcs[f]? = some fn ∧ fn.body.isSome = true ∧ (fn.name == "runtime.NumGoroutine") = false

/-- A function without a Go body: its value is the model's own. -/
def ExtOk (P : Program) (f : FuncId) (sp : Spec) : Prop :=
  ∀ (args : List AV) (mem : List Blk) (r : Res) (mem' : List Blk), sp args mem = some (r, mem') → mem = [] ∧ mem' = [] ∧ ∃ v, r = .ret v ∧ ∀ (F : Nat → Prop) (w : World) (vs : List Value), CR F w [] args vs →
    ∃ x, (callFunc f vs.toArray).run P w = .ok (.value x) w ∧ VR F w [] v x

/-- .. and one that may look at the caller's memory. -/
def ExtM (P : Program) (f : FuncId) (sp : Spec) : Prop :=
  ∀ (args : List AV) (mem : List Blk) (r : Res) (mem' : List Blk), sp args mem = some (r, mem') → mem' = mem ∧ ∃ v, r = .ret v ∧ ∀ (O F : Nat → Prop) (B : List Loc) (w : World) (vs : List Value), MR O F w B mem → CR F w B args vs →
    ∃ x, (callFunc f vs.toArray).run P w = .ok (.value x) w ∧ VR F w B v x

def CallOk (P : Program) (f : FuncId) (sp : Spec) : Prop := (Enters P f ∧ Ok P f sp) ∨ ExtOk P f sp ∨ ExtM P f sp

def EnvOk (P : Program) (Γ : Env) : Prop := ∀ f ms sp, Γ f = some (ms, sp) → CallOk P f sp

section
variable {P : Program} {O F F' : Nat → Prop} {w w' : World} {B B' : List Loc} {ts : Nat → AV} {mem mem' : List Blk} {a : Act} {o : Oper}

/-- The operation goes as the abstract one says. -/
def Goes (P : Program) (O F : Nat → Prop) (w : World) (B : List Loc) (o : Oper) (a : Act) (r : Res) (mem' : List Blk) : Prop :=
  ∀ (K : Act → World → Prop) (Q : Exit → Act → World → Prop),
    (∀ x w' F' B', MR O F' w' B' mem' → Ext F F' w w' B B' → Ev O w w' → (∀ b, F' b → F b ∨ O b) → match r with
      | .ret v => VR F' w' B' v x → K (a.put o.dst x) w'
      | .pan v => VR F' w' B' v x → Q (.panic [{ v := x, recovered := false }]) a w') → o.wp P a w K Q

theorem Goes.value {x : Value} {v : AV} (hr : (execOp a.eval o).run P w = .ok (.value x) w') (hm : MR O F' w' B' mem') (e : Ext F F' w w' B B') (ev : Ev O w w') (hF : ∀ b, F' b → F b ∨ O b) (hv : VR F' w' B' v x) :
    Goes P O F w B o a (.ret v) mem' := fun K Q h => by
  unfold Oper.wp; rw [hr]; exact h x w' F' B' hm e ev hF hv

theorem Goes.pure {x : Value} {v : AV} (hr : (execOp a.eval o).run P w = .ok (.value x) w) (hm : MR O F w B mem) (hv : VR F w B v x) : Goes P O F w B o a (.ret v) mem :=
  .value hr hm (.refl F w B) (.refl O w) (fun _ h => .inl h) hv

/-- How the slots stand. -/
def TR (F : Nat → Prop) (w : World) (B : List Loc) (ts : Nat → AV) (a : Act) : Prop := ∀ n, VR F w B (ts n) (a.tmps.getD n undef)

theorem TR.mono (e : Ext F F' w w' B B') (ht : TR F w B ts a) : TR F' w' B' ts a := fun n => (ht n).mono e

theorem opd_ok (ht : TR F w B ts a) (x : Operand) : VR F w B ((compOpd x).ev ts) (a.eval x) := by
  cases x with
  | tmp t => exact ht t
  | const v => exact .v v
  | global g => exact .v _
  | func f => exact .v _

theorem VR.of_v {x y : Value} (h : VR F w B (.v x) y) : y = x := by cases h; rfl
theorem VR.of_agg {cs : List AV} {y : Value} (h : VR F w B (.agg cs) y) : ∃ vs, y = .agg vs.toArray ∧ CR F w B cs vs := by cases h; exact ⟨_, rfl, ‹_›⟩
theorem VR.of_tup {cs : List AV} {y : Value} (h : VR F w B (.tup cs) y) : ∃ vs, y = .tuple vs.toArray ∧ CR F w B cs vs := by cases h; exact ⟨_, rfl, ‹_›⟩

theorem VR.one {c : AV} {x : Value} (h : VR F w B c x) (ho : c.one = true) : x.oneCell' = true := by
  cases h <;> first | rfl | exact ho | (simp [AV.one] at ho)

theorem CR.ones {cs : List AV} {vs : List Value} (h : CR F w B cs vs) (ho : cs.all AV.one = true) : ∀ u ∈ vs, u.oneCell' = true := by
  induction cs generalizing vs with
  | nil => cases h; intro u hu; cases hu
  | cons c cs ih =>
    cases h with
    | cons h t =>
      simp only [List.all_cons, Bool.and_eq_true] at ho
      intro u hu
      cases hu with
      | head => exact VR.one h ho.1
      | tail _ hm => exact ih t ho.2 u hm

theorem VR.shaped {c : AV} {x : Value} (h : VR F w B c x) (ho : c.shaped = true) : CR F w B c.cells x.cells.toList ∧ ∀ u ∈ x.cells.toList, u.oneCell' = true := by
  have single : ∀ {c : AV} {x : Value}, VR F w B c x → x.oneCell' = true → c.cells = [c] → CR F w B c.cells x.cells.toList ∧ ∀ u ∈ x.cells.toList, u.oneCell' = true := by
    intro c x h h1 hc
    have : x.cells = #[x] := by cases x <;> first | rfl | (simp [Value.oneCell'] at h1)
    rw [hc, this]
    exact ⟨.one h, by simpa using h1⟩
  cases h with
  | agg h =>
    refine ⟨by simpa [Value.cells] using h, ?_⟩
    simp only [AV.shaped] at ho
    simp only [Value.cells]
    exact CR.ones h ho
  | _ => first | exact single (by constructor <;> assumption) rfl rfl | exact single (.v _) ho rfl | (simp [AV.shaped, AV.one] at ho)

/-! ### One by one -/
theorem go_mov (x : Operand) (ho : o.op = .move x ∨ o.op = .assign x) (hm : MR O F w B mem) (ht : TR F w B ts a) : Goes P O F w B o a (.ret ((compOpd x).ev ts)) mem :=
  .pure (by rcases ho with ho | ho <;> simp [execOp, ho]) hm (opd_ok ht x)

theorem go_pick (c x y : Operand) (t : Bool) (ho : o.op = .pick c x y) (hc : (compOpd c).ev ts = .v (.bool t)) (hm : MR O F w B mem) (ht : TR F w B ts a) :
    Goes P O F w B o a (.ret (cond t ((compOpd x).ev ts) ((compOpd y).ev ts))) mem := by
  have h := opd_ok ht c
  rw [hc] at h
  have e : a.eval c = .bool t := h.of_v
  refine .pure (x := if t then a.eval x else a.eval y) (by simp [execOp, ho, e, asBool]) hm ?_
  cases t
  · exact opd_ok ht y
  · exact opd_ok ht x

theorem run_under {t : TypeId} {d : TypeDesc} (h : P.underlying t = some d) : (underlying t).run P w = .ok d w := run_underlying h w
theorem run_size {t : TypeId} {n : Nat} (h : szOf P t = some n) : (sizeOf t).run P w = .ok n w := by
  unfold szOf at h
  cases hi : P.info? t with
  | none => simp [hi] at h
  | some i => simp [hi] at h; subst h; simp [sizeOf, typeInfo, hi]
theorem run_agg {t : TypeId} {k : Bool × Nat} (h : kOf P t = some k) : (isAgg t).run P w = .ok k.1 w ∧ (sizeOf t).run P w = .ok k.2 w := by
  unfold kOf at h
  split at h
  · rename_i d n h1 h2
    cases h
    refine ⟨?_, run_size h2⟩
    unfold isAgg aggOf
    simp only [Sem.run_bind, run_under h1, Result.andThen_ok]
    rw [h1]
    cases d <;> rfl
  · cases h

theorem kOf_some {t : TypeId} {k : Bool × Nat} (h : kOf P t = some k) : szOf P t = some k.2 := by
  unfold kOf at h
  split at h
  · rename_i h1 h2; cases h; exact h2
  · cases h

theorem mk_some {g : Bool} {cs : List AV} {v : AV} (h : mk g cs = some v) : (g = true ∧ v = .agg cs) ∨ (g = false ∧ cs = [v]) := by
  unfold mk at h
  cases g
  · simp at h
    split at h
    · cases h; exact .inr ⟨rfl, rfl⟩
    · cases h
  · simp at h; exact .inl ⟨rfl, h.symm⟩

/-- Cells behind a pointer, as they lie. -/
theorem cellsAt_ok {n : Nat} {p : AV} {cs : List AV} {x : Value} (h : cellsAt mem n p = some cs) (hm : MR O F w B mem) (hv : VR F w B p x) :
    ∃ b o xs, x = .pointer (some ⟨b, o, none⟩) ∧ cs.length = n ∧ CR F w B cs xs ∧ ∀ j y, xs[j]? = some y → w.cell? ⟨b, o + j, none⟩ = some y := by
  have bare : ∀ {as : List AV} {xs : List Value}, CR F w [] as xs → CR F w B as xs := fun h => h.mono ⟨fun _ h => h, fun i l h => by simp at h, fun _ _ => rfl⟩
  unfold cellsAt at h
  split at h
  · rename_i id i o
    split at h
    · rename_i cs0 hi
      split at h
      · rename_i hc
        obtain ⟨rfl, hle⟩ := hc
        cases h
        have hlt := (List.getElem?_eq_some_iff.1 hi).1
        obtain ⟨l, hl⟩ : ∃ l, B[id]? = some l := ⟨_, List.getElem?_eq_getElem (by rw [hm.len]; exact hlt)⟩
        have hbr := hm.br id _ l hi hl
        match l, hbr, hl with
        | .var b, ⟨t, xs, h1, h2⟩, hl =>
          refine ⟨b, o, (xs.drop o).take n, ?_, by simp; omega, (h2.drop o).take n, ?_⟩
          · cases hv with
            | ptrV h => rw [hl] at h; cases h; rfl
            | ptrA h => rw [hl] at h; cases h
          · intro j y hj
            rw [List.getElem?_take] at hj
            split at hj
            · rw [List.getElem?_drop] at hj
              simp only [World.cell?, h1]
              simpa using hj
            · cases hj
      · cases h
    · rename_i t sz es hi
      split at h
      · rename_i e he
        split at h
        · rename_i hle
          cases h
          have hlt := (List.getElem?_eq_some_iff.1 hi).1
          obtain ⟨l, hl⟩ : ∃ l, B[id]? = some l := ⟨_, List.getElem?_eq_getElem (by rw [hm.len]; exact hlt)⟩
          have hbr := hm.br id _ l hi hl
          match l, hbr, hl with
          | .arr sz' g m cap, ⟨h1, h2, h3, h4, xs, h5, h6⟩, hl =>
            subst h1
            have hes : (AV.cellsAll es).length = es.length * sz := AV.cellsAll_length h4
            have hxs : xs.length = es.length * sz := by rw [h6.length, hes]
            have hie : i < es.length := (List.getElem?_eq_some_iff.1 he).1
            have hel : e.cells.length = sz := h4 e (List.mem_of_getElem? he)
            cases g with
            | none =>
              cases hv with
              | ptrV h => rw [hl] at h; cases h
              | ptrA h => rw [hl] at h; cases h
            | some g =>
              have hx : x = .pointer (some ⟨g, i * sz + o, none⟩) := by
                cases hv with
                | ptrV h => rw [hl] at h; cases h
                | ptrA h => rw [hl] at h; cases h; rfl
              refine ⟨g, i * sz + o, ((xs.drop (i * sz)).take sz |>.drop o).take n, hx, by simp; omega, ?_, ?_⟩
              · have hcr := ((bare h6).drop (i * sz)).take sz
                have heq : ((AV.cellsAll es).drop (i * sz)).take sz = e.cells := by
                  apply List.ext_getElem?
                  intro j
                  rw [List.getElem?_take]
                  split
                  · rename_i hj
                    rw [List.getElem?_drop, AV.cellsAll_at h4 he j hj]
                  · rw [List.getElem?_eq_none (by omega)]
                rw [heq] at hcr
                exact (hcr.drop o).take n
              · intro j y hj
                rw [List.getElem?_take] at hj
                split at hj
                · rw [List.getElem?_drop, List.getElem?_take] at hj
                  split at hj
                  · rw [List.getElem?_drop] at hj
                    have := h5.cells (g := g) rfl (i * sz + (o + j)) y hj
                    rw [show i * sz + o + j = i * sz + (o + j) by omega]
                    unfold Addr.add at this
                    split at this
                    · rename_i h0; rw [h0]; exact this
                    · simpa using this
                  · cases hj
                · cases hj
        · cases h
      · cases h
    · cases h
  · rename_i e o
    split at h
    · rename_i hle
      cases h
      cases hv with
      | fptr b a0 _ h hF hx =>
        rename_i xs
        refine ⟨b, a0 + o, (xs.drop o).take n, rfl, by simp; omega, ((bare h).drop o).take n, ?_⟩
        intro j y hj
        rw [List.getElem?_take] at hj
        split at hj
        · rw [List.getElem?_drop] at hj
          rw [Nat.add_assoc]; exact hx _ _ hj
        · cases hj
    · cases h
  · cases h

theorem add_plain (b o n : Nat) : (⟨b, o, none⟩ : Addr).add n = ⟨b, o + n, none⟩ := by
  unfold Addr.add; split
  · rename_i h; subst h; rfl
  · rfl

theorem go_ld (t : TypeId) (x : Operand) (k : Bool × Nat) (cs : List AV) (v : AV) (ho : o.op = .load t x) (hk : kOf P t = some k) (hc : cellsAt mem k.2 ((compOpd x).ev ts) = some cs) (hv : mk k.1 cs = some v)
    (hm : MR O F w B mem) (ht : TR F w B ts a) : Goes P O F w B o a (.ret v) mem := by
  obtain ⟨b, of, xs, hx, hl, hcr, hcell⟩ := cellsAt_ok hc hm (opd_ok ht x)
  obtain ⟨r1, r2⟩ := run_agg (P := P) (w := w) hk
  have hxl : xs.length = k.2 := by rw [hcr.length, hl]
  have hload := run_loadCells_list (P := P) w ⟨b, of, none⟩ xs (fun j y hj => by rw [add_plain]; exact hcell j y hj)
  rw [hxl] at hload
  rcases mk_some hv with ⟨hg, rfl⟩ | ⟨hg, rfl⟩
  · refine .pure (x := .agg xs.toArray) ?_ hm (.agg hcr)
    simp only [execOp, ho, Instr.loadAt, hx, Instr.sureAddr, loadVar, Sem.run_bind, Sem.run_pure, Result.andThen_ok, r1, hg, if_true, r2, hload]
  · obtain ⟨y, rfl, hy⟩ := hcr.of_one
    refine .pure (x := y) ?_ hm hy
    have h0 := hcell 0 y rfl
    simp only [Nat.add_zero] at h0
    simp only [execOp, ho, Instr.loadAt, hx, Instr.sureAddr, loadVar, Sem.run_bind, Sem.run_pure, Result.andThen_ok, r1, hg, Bool.false_eq_true, if_false, run_load, h0]

theorem go_un (op : UnOp) (t : TypeId) (x : Operand) (v r : Value) (ho : o.op = .unOp op t x) (hx : (compOpd x).ev ts = .v v) (hr : unV op v = some r) (hm : MR O F w B mem) (ht : TR F w B ts a) :
    Goes P O F w B o a (.ret (.v r)) mem := by
  have h := opd_ok ht x
  rw [hx] at h
  have e := h.of_v
  refine .pure (x := r) ?_ hm (.v r)
  simp only [execOp, ho, e]
  cases op <;> cases v <;> simp [unV] at hr <;> subst hr <;> simp [Op.unary, Op.intArith, Op.intBits, notI]

theorem run_guard (op : BinOp) (t : TypeId) (x y : Operand) (va vb : Value) (h : ∀ cs, va ≠ .agg cs) (h2 : va ≠ .nilIface) : (eqGuard op t x y va vb).run P w = .ok () w := by
  unfold eqGuard
  cases va <;> (try exact absurd rfl h2) <;> (try exact absurd rfl (h _)) <;> (split <;> rfl)

theorem string_beq (a b : ByteArray) : (a.toList == b.toList) = (a == b) := (beq_toListBytes a b).symm
theorem string_bne (a b : ByteArray) : (!(a.toList == b.toList)) = (a != b) := by rw [string_beq]; rfl

theorem isBool_under {t : TypeId} (h : isBool P t = true) : P.underlying t = some .bool := by
  unfold isBool at h
  split at h
  · assumption
  · cases h

theorem run_binI {op : BinOp} {k k' : IntKind} {x y : Int} {r : Value} (t : TypeId) (h : binI op k x k' y = some r) : (binOp op t (.int k x) (.int k' y)).run P w = .ok r w := by
  cases op <;> simp only [binI, Option.ite_none_right_eq_some, Option.some.injEq] at h
  case shl | shr =>
    obtain ⟨h0, rfl⟩ := h
    simp only [binOp, Op.shift]
    rw [if_neg (by omega)]; rfl
  case quo | rem =>
    obtain ⟨⟨rfl, h0⟩, rfl⟩ := h
    simp [binOp, Op.intDiv, h0]
  all_goals
    obtain ⟨rfl, rfl⟩ := h
    simp [binOp, Op.intArith, Op.intBits, Op.intCmp, andI, orI, xorI, andNotI]

theorem run_binF {op : BinOp} {k k' : FloatKind} {x y : Nat} {r : Value} (t : TypeId) (h : binF op k x k' y = some r) : (binOp op t (.float k x) (.float k' y)).run P w = .ok r w := by
  cases op <;> simp only [binF, Option.ite_none_right_eq_some, Option.some.injEq] at h <;> (try cases h)
  all_goals
    rename_i h1 h2
    subst h1; subst h2
    simp [binOp, Op.floatCmp]

theorem run_binS {op : BinOp} {x y : ByteArray} {r : Value} (t : TypeId) (h : binS op x y = some r) : (binOp op t (.string x) (.string y)).run P w = .ok r w := by
  cases op <;> simp only [binS, Option.ite_none_right_eq_some, Option.some.injEq] at h <;> (try cases h)
  case add =>
    rename_i h1 h2
    subst h2
    simp only [binOp, Op.stringOp]
    rw [if_neg (by simp [IntKind.max, IntKind.bits, IntKind.signed]; omega)]; rfl
  case eql => simp [binOp, Op.stringOp, string_beq]
  case neq => simp [binOp, Op.stringOp, string_beq, bne]

theorem run_binB {op : BinOp} {x y : Bool} {r : Value} (t : TypeId) (h : binB (isBool P t) op x y = some r) : (binOp op t (.bool x) (.bool y)).run P w = .ok r w := by
  have he : ∀ hu : P.underlying t = some .bool, (Op.equal t (.bool x) (.bool y)).run P w = .ok (x == y) w := fun hu => run_equalIn_bool' w 9999 t x y hu
  cases op <;> simp only [binB, Option.ite_none_right_eq_some, Option.some.injEq] at h <;> (try cases h)
  case eql.intro h1 h2 =>
    subst h2
    have : binOp .eql t (.bool x) (.bool y) = (do pure (.bool (← Op.equal t (.bool x) (.bool y)))) := rfl
    rw [this, Sem.run_bind, he (isBool_under h1)]; rfl
  case neq.intro h1 h2 =>
    subst h2
    have : binOp .neq t (.bool x) (.bool y) = (do pure (.bool (!(← Op.equal t (.bool x) (.bool y))))) := rfl
    rw [this, Sem.run_bind, he (isBool_under h1)]; rfl

theorem go_bin (op : BinOp) (t : TypeId) (x y : Operand) (yt : TypeId) (va vb r : Value) (ho : o.op = .binOp op t x y yt) (hx : (compOpd x).ev ts = .v va) (hy : (compOpd y).ev ts = .v vb)
    (hr : binV (isBool P t) op va vb = some r) (hm : MR O F w B mem) (ht : TR F w B ts a) : Goes P O F w B o a (.ret (.v r)) mem := by
  have h1 := opd_ok ht x
  rw [hx] at h1
  have e1 := h1.of_v
  have h2 := opd_ok ht y
  rw [hy] at h2
  have e2 := h2.of_v
  refine .pure (x := r) ?_ hm (.v r)
  simp only [execOp, ho, e1, e2]
  suffices hg : (eqGuard op t x y va vb).run P w = .ok () w ∧ (binOp op t va vb).run P w = .ok r w by
    simp only [Sem.run_bind, hg.1, Result.andThen_ok, hg.2]; rfl
  unfold binV at hr
  split at hr
  · exact ⟨run_guard op t x y _ _ (fun _ h => by cases h) (fun h => by cases h), run_binI t hr⟩
  · exact ⟨run_guard op t x y _ _ (fun _ h => by cases h) (fun h => by cases h), run_binF t hr⟩
  · exact ⟨run_guard op t x y _ _ (fun _ h => by cases h) (fun h => by cases h), run_binS t hr⟩
  · exact ⟨run_guard op t x y _ _ (fun _ h => by cases h) (fun h => by cases h), run_binB t hr⟩
  · cases hr

end
end Go.Proofs.YtjmgnodeohmboaaDoor.Am
