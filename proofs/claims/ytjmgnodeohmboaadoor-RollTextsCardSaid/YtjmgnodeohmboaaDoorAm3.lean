/-
  THE ABSTRACT MACHINE, FOURTH PART: more operations that write nothing. No program is named here.
-/
import Derived.Test.YtjmgnodeohmboaaDoorAm2
namespace Go.Proofs.YtjmgnodeohmboaaDoor.Am
set_option linter.unusedSimpArgs false
set_option linter.unusedVariables false
open Go
section
variable {P : Program} {O F F' : Nat → Prop} {w w' : World} {B B' : List Loc} {ts : Nat → AV} {mem mem' : List Blk} {a : Act} {o : Oper}

theorem bare_up {x : AV} {y : Value} (h : VR F w [] x y) : VR F w B x y := h.mono ⟨fun _ h => h, fun i l h => by simp at h, fun _ _ => rfl⟩
theorem bareC_up {x : List AV} {y : List Value} (h : CR F w [] x y) : CR F w B x y := h.mono ⟨fun _ h => h, fun i l h => by simp at h, fun _ _ => rfl⟩

theorem VR.of_ifc {t : TypeId} {c : AV} {y : Value} (h : VR F w B (.ifc t c) y) : ∃ z, y = .iface t z ∧ VR F w B c z := by cases h; exact ⟨_, rfl, ‹_›⟩
theorem VR.of_ptr {id i k : Nat} {y : Value} (h : VR F w B (.ptr id i k) y) : ∃ b p, y = .pointer (some ⟨b, p, none⟩) := by cases h <;> exact ⟨_, _, rfl⟩
theorem VR.of_fptr {e : AV} {k : Nat} {y : Value} (h : VR F w B (.fptr e k) y) : ∃ b p, y = .pointer (some ⟨b, p, none⟩) := by cases h; exact ⟨_, _, rfl⟩
theorem VR.of_fn {f : FuncId} {cs : List AV} {y : Value} (h : VR F w B (.fn f cs) y) : ∃ vs, y = .func (.func f) #[] vs.toArray ∧ CR F w B cs vs := by cases h; exact ⟨_, rfl, ‹_›⟩

theorem go_cvt (s d : TypeId) (x : Operand) (ks k : IntKind) (n : Int) (k0 : IntKind) (ho : o.op = .convert s d x) (h1 : P.underlying s = some (.int ks)) (h2 : P.underlying d = some (.int k)) (hx : (compOpd x).ev ts = .v (.int k0 n))
    (hm : MR O F w B mem) (ht : TR F w B ts a) : Goes P O F w B o a (.ret (.v (.int k (k.wrap n)))) mem := by
  have h := opd_ok ht x
  rw [hx] at h
  refine .pure (x := .int k (k.wrap n)) ?_ hm (.v _)
  simp [execOp, ho, h.of_v, convert, run_under h1, run_under h2, Conv.intToInt]

theorem go_cvs (s d : TypeId) (x : Operand) (y : ByteArray) (ho : o.op = .convert s d x) (h1 : P.underlying s = some .string) (h2 : P.underlying d = some .string) (hx : (compOpd x).ev ts = .v (.string y))
    (hm : MR O F w B mem) (ht : TR F w B ts a) : Goes P O F w B o a (.ret (.v (.string y))) mem := by
  have h := opd_ok ht x
  rw [hx] at h
  refine .pure (x := .string y) ?_ hm (.v _)
  simp [execOp, ho, h.of_v, convert, run_under h1, run_under h2]

theorem go_mki (t : TypeId) (x : Operand) (ho : o.op = .makeInterface t x) (d : TypeDesc) (h1 : P.underlying t = some d) (hd : ∀ ms, d ≠ .interface ms)
    (hm : MR O F w B mem) (ht : TR F w B ts a) : Goes P O F w B o a (.ret (.ifc t ((compOpd x).ev ts))) mem := by
  refine .pure (x := .iface t (a.eval x)) ?_ hm (.ifc (opd_ok ht x))
  simp only [execOp, ho, Instr.makeInterface, Sem.run_bind, run_under h1, Result.andThen_ok]
  cases d <;> first | rfl | exact absurd rfl (hd _)

theorem mapCR (ht : TR F w B ts a) (xs : List Operand) : CR F w B (xs.map fun x => (compOpd x).ev ts) (xs.map a.eval) := by
  induction xs with
  | nil => exact .nil
  | cons x xs ih => exact .cons (opd_ok ht x) ih

theorem go_mkf (f : FuncId) (first caps : Array Operand) (ho : o.op = .makeFunc (.func f) first caps) (hf : first.isEmpty = true)
    (hm : MR O F w B mem) (ht : TR F w B ts a) : Goes P O F w B o a (.ret (.fn f (caps.toList.map fun x => (compOpd x).ev ts))) mem := by
  have h0 : first = #[] := by simpa using hf
  subst h0
  refine .pure (x := .func (.func f) #[] (caps.toList.map a.eval).toArray) ?_ hm (.fn (mapCR ht _))
  have hmap : caps.map a.eval = (caps.toList.map a.eval).toArray := by apply Array.toList_inj.1; simp
  simp only [execOp, ho, Instr.makeFunc, Sem.run_bind, Sem.run_pure, Result.andThen_ok, hmap, Array.map_empty]

theorem go_ext (k : Nat) (x : Operand) (vs : List AV) (v : AV) (ho : o.op = .extract x k) (hx : (compOpd x).ev ts = .tup vs) (hv : vs[k]? = some v)
    (hm : MR O F w B mem) (ht : TR F w B ts a) : Goes P O F w B o a (.ret v) mem := by
  have h := opd_ok ht x
  rw [hx] at h
  obtain ⟨ys, e, hc⟩ := h.of_tup
  obtain ⟨y, h1, h2⟩ := hc.at hv
  refine .pure (x := y) ?_ hm h2
  simp [execOp, ho, e, Instr.extract, h1]

theorem go_pan (x : Operand) (t : TypeId) (v : AV) (ho : o.op = .panic x) (hx : (compOpd x).ev ts = .ifc t v)
    (hm : MR O F w B mem) (ht : TR F w B ts a) : Goes P O F w B o a (.pan (.ifc t v)) mem := by
  have h := opd_ok ht x
  rw [hx] at h
  intro K Q hk
  unfold Oper.wp
  obtain ⟨y, hy, _⟩ := h.of_ifc
  rw [hy] at h
  have : (execOp a.eval o).run P w = .halt (.panic (.iface t y)) w := by simp [execOp, ho, hy, Instr.panic]
  rw [this]
  exact hk _ w F B hm (.refl F w B) (.refl O w) (fun _ h => .inl h) h

theorem go_chk (x : Operand) (v : AV) (ho : o.op = .nilCheck x) (hx : (compOpd x).ev ts = v)
    (hv : (∃ id i o, v = .ptr id i o) ∨ (∃ e o, v = .fptr e o) ∨ (∃ f cs, v = .fn f cs) ∨ (∃ f xs ys, v = .v (.func (.func f) xs ys)))
    (hm : MR O F w B mem) (ht : TR F w B ts a) : Goes P O F w B o a (.ret v) mem := by
  have h := opd_ok ht x
  rw [hx] at h
  refine .pure (x := a.eval x) ?_ hm h
  rcases hv with ⟨id, i, of, rfl⟩ | ⟨e, of, rfl⟩ | ⟨f, cs, rfl⟩ | ⟨f, xs, ys, rfl⟩
  · obtain ⟨b, p, e⟩ := h.of_ptr; simp [execOp, ho, e]
  · obtain ⟨b, p, e⟩ := h.of_fptr; simp [execOp, ho, e]
  · obtain ⟨vs, e, _⟩ := h.of_fn; simp [execOp, ho, e]
  · have e := h.of_v; simp [execOp, ho, e]

theorem place_ok (k : Nat) {f : Field} {n : Nat} (ad : Addr) (hs : szOf P f.type = some (n + 1)) : (fieldPlace ad f).run P w = .ok (ad.add f.offset) w := by
  simp [fieldPlace, run_size hs]

theorem go_fad (st : TypeId) (x : Operand) (i : Nat) (fs : Array Field) (f : Field) (n : Nat) (v : AV) (ho : o.op = .fieldAddr st x i) (h1 : P.underlying st = some (.struct fs)) (h2 : fs[i]? = some f) (h3 : szOf P f.type = some (n + 1))
    (hx : (∃ id j k, (compOpd x).ev ts = .ptr id j k ∧ v = .ptr id j (k + f.offset)) ∨ (∃ e k, (compOpd x).ev ts = .fptr e k ∧ v = .fptr e (k + f.offset)))
    (hm : MR O F w B mem) (ht : TR F w B ts a) : Goes P O F w B o a (.ret v) mem := by
  have h := opd_ok ht x
  have key : ∀ b p, a.eval x = .pointer (some ⟨b, p, none⟩) → (execOp a.eval o).run P w = .ok (.value (.pointer (some ⟨b, p + f.offset, none⟩))) w := by
    intro b p e
    simp only [execOp, ho, e, Instr.fieldAt, Sem.run_bind, run_under h1, Result.andThen_ok, h2, Instr.sureAddr, Sem.run_pure, place_ok 0 _ h3, add_plain]
  rcases hx with ⟨id, j, k, hx, rfl⟩ | ⟨e, k, hx, rfl⟩
  · rw [hx] at h
    generalize hy : a.eval x = y at h
    cases h with
    | ptrV h => exact .pure (key _ _ hy) hm (.ptrV h)
    | ptrA h => refine .pure (key _ _ hy) hm ?_; rw [Nat.add_assoc]; exact .ptrA h
  · rw [hx] at h
    generalize hy : a.eval x = y at h
    cases h with
    | fptr b a0 _ h hF hc => refine .pure (key _ _ hy) hm ?_; rw [Nat.add_assoc]; exact .fptr b a0 _ h hF hc

theorem run_part {t : TypeId} {k : Bool × Nat} {xs : List Value} {cs : List AV} {off : Nat} {v : AV} (hk : kOf P t = some k) (hc : CR F w B cs xs) (hl : off + k.2 ≤ cs.length) (hv : mk k.1 ((cs.drop off).take k.2) = some v) :
    ∃ y, (part t xs.toArray off).run P w = .ok y w ∧ VR F w B v y := by
  obtain ⟨r1, r2⟩ := run_agg (P := P) (w := w) hk
  have hcr := (hc.drop off).take k.2
  rcases mk_some hv with ⟨hg, rfl⟩ | ⟨hg, he⟩
  · refine ⟨.agg ((xs.drop off).take k.2).toArray, ?_, .agg hcr⟩
    simp only [part, Sem.run_bind, r1, Result.andThen_ok, hg, if_true, r2]
    simp only [Sem.run_pure, Result.andThen_ok]
    congr 2
    simp [List.extract_eq_take_drop]
  · rw [he] at hcr
    obtain ⟨y, hy, hvr⟩ := hcr.of_one
    refine ⟨y, ?_, hvr⟩
    have h0 : xs[off]? = some y := by
      have : ((xs.drop off).take k.2)[0]? = some y := by rw [hy]; rfl
      rw [List.getElem?_take] at this
      split at this
      · rw [List.getElem?_drop] at this; simpa using this
      · cases this
    simp only [part, Sem.run_bind, r1, Result.andThen_ok, hg]
    simp [h0]

theorem go_fld (st : TypeId) (x : Operand) (i : Nat) (fs : Array Field) (f : Field) (k : Bool × Nat) (cs : List AV) (v : AV) (ho : o.op = .field st x i) (h1 : P.underlying st = some (.struct fs)) (h2 : fs[i]? = some f) (h3 : kOf P f.type = some k)
    (hx : (compOpd x).ev ts = .agg cs) (hl : f.offset + k.2 ≤ cs.length) (hv : mk k.1 ((cs.drop f.offset).take k.2) = some v)
    (hm : MR O F w B mem) (ht : TR F w B ts a) : Goes P O F w B o a (.ret v) mem := by
  have h := opd_ok ht x
  rw [hx] at h
  obtain ⟨xs, e, hc⟩ := h.of_agg
  obtain ⟨y, hy, hvr⟩ := run_part (P := P) h3 hc hl hv
  refine .pure (x := y) ?_ hm hvr
  simp only [execOp, ho, e, Instr.field, Sem.run_bind, run_under h1, Result.andThen_ok, h2, asAgg, Sem.run_pure, hy]

theorem int_of {x : Operand} {k : Int} (ht : TR F w B ts a) (h : intOf? ((compOpd x).ev ts) = some k) : ∃ ki, a.eval x = .int ki k := by
  have hv := opd_ok ht x
  unfold intOf? at h
  split at h
  · rename_i ki n hx
    cases h
    rw [hx] at hv
    exact ⟨ki, hv.of_v⟩
  · cases h

theorem go_ixs (t : TypeId) (x i : Operand) (s : ByteArray) (k : Int) (b : UInt8) (ho : o.op = .index t x i) (h1 : P.underlying t = some .string) (hx : (compOpd x).ev ts = .v (.string s)) (hi : intOf? ((compOpd i).ev ts) = some k)
    (h0 : 0 ≤ k) (hb : s.data.toList[k.toNat]? = some b) (hm : MR O F w B mem) (ht : TR F w B ts a) : Goes P O F w B o a (.ret (.v (.int .u8 b.toNat))) mem := by
  have h := opd_ok ht x
  rw [hx] at h
  obtain ⟨ki, ei⟩ := int_of ht hi
  refine .pure (x := .int .u8 b.toNat) ?_ hm (.v _)
  have hb' : s[k.toNat]? = some b := by
    obtain ⟨hlt, he⟩ := List.getElem?_eq_some_iff.1 hb
    have hlt' : k.toNat < s.size := by simpa using hlt
    rw [getElem?_pos s k.toNat hlt', ← he]; rfl
  simp [execOp, ho, h.of_v, ei, Instr.index, asIntOf, run_under h1, h0, hb']

theorem go_ixa (t : TypeId) (x i : Operand) (len : Nat) (e : TypeId) (kk : Bool × Nat) (cs : List AV) (k : Int) (v : AV) (ho : o.op = .index t x i) (h1 : P.underlying t = some (.array len e)) (h2 : kOf P e = some kk)
    (hx : (compOpd x).ev ts = .agg cs) (hi : intOf? ((compOpd i).ev ts) = some k) (h0 : 0 ≤ k) (hlt : k < len) (hl : k.toNat * kk.2 + kk.2 ≤ cs.length) (hv : mk kk.1 ((cs.drop (k.toNat * kk.2)).take kk.2) = some v)
    (hm : MR O F w B mem) (ht : TR F w B ts a) : Goes P O F w B o a (.ret v) mem := by
  have h := opd_ok ht x
  rw [hx] at h
  obtain ⟨xs, ex, hc⟩ := h.of_agg
  obtain ⟨ki, ei⟩ := int_of ht hi
  obtain ⟨y, hy, hvr⟩ := run_part (P := P) h2 hc hl hv
  refine .pure (x := y) ?_ hm hvr
  simp only [execOp, ho, ex, ei, Instr.index, asIntOf, Sem.run_bind, run_under h1, Result.andThen_ok, Sem.run_pure, (run_agg (P := P) (w := w) h2).2]
  rw [if_pos ⟨h0, hlt⟩]
  simp only [Sem.run_bind, (run_agg (P := P) (w := w) h2).2, Result.andThen_ok, hy, Sem.run_pure]

/-- A slice's elements, as they lie. -/
theorem elems_ok {x : AV} {y : Value} {sz : Nat} {es : List AV} (h : elems mem x = some (sz, es)) (hm : MR O F w B mem) (hv : VR F w B x y) :
    ∃ base cap, y = .slice base es.length cap ∧ (∀ e ∈ es, e.cells.length = sz) ∧ (es ≠ [] → ∃ b p xs, base = some ⟨b, p, none⟩ ∧ CR F w [] (AV.cellsAll es) xs ∧ ∀ j z, xs[j]? = some z → w.cell? ⟨b, p + j, none⟩ = some z) := by
  have fr : ∀ {sz : Nat} {es : List AV} {y : Value} {B : List Loc}, VR F w B (.fsl sz es) y → ∃ base cap, y = .slice base es.length cap ∧ (∀ e ∈ es, e.cells.length = sz) ∧ (es ≠ [] → ∃ b p xs, base = some ⟨b, p, none⟩ ∧ CR F w [] (AV.cellsAll es) xs ∧ ∀ j z, xs[j]? = some z → w.cell? ⟨b, p + j, none⟩ = some z) := by
    intro sz es y B h
    cases h with
    | fslNil base cap => exact ⟨base, cap, rfl, fun e he => by simp at he, fun h => absurd rfl h⟩
    | fsl b p cap h hs hF hx hcap => exact ⟨_, cap, rfl, hs, fun _ => ⟨b, p, _, rfl, h, hx⟩⟩
  unfold elems at h
  split at h
  · cases h; exact fr hv
  · rename_i id
    split at h
    · rename_i t sz es hi
      cases h
      have hlt := (List.getElem?_eq_some_iff.1 hi).1
      obtain ⟨l, hl⟩ : ∃ l, B[id]? = some l := ⟨_, List.getElem?_eq_getElem (by rw [hm.len]; exact hlt)⟩
      have hbr := hm.br id _ l hi hl
      match l, hbr, hl with
      | .arr sz' g n cap, ⟨h1, h2, h3, h4, xs, h5, h6⟩, hl =>
        subst h1; subst h3
        cases hv with
        | osl h =>
          rw [hl] at h; cases h
          refine ⟨_, cap, rfl, h4, fun hne => ?_⟩
          rcases h5.2 with ⟨h7, h8⟩ | ⟨g', cap', cur, h7, _⟩
          · exact absurd (List.eq_nil_of_length_eq_zero h8) hne
          · cases g with
            | none => simp [head] at h7
            | some g =>
              refine ⟨g, 0, xs, rfl, h6, fun j z hz => ?_⟩
              have := h5.cells (g := g) rfl j z hz
              rw [add_plain] at this
              exact this
    · rename_i sz es hi
      cases h
      have hlt := (List.getElem?_eq_some_iff.1 hi).1
      obtain ⟨l, hl⟩ : ∃ l, B[id]? = some l := ⟨_, List.getElem?_eq_getElem (by rw [hm.len]; exact hlt)⟩
      have hbr := hm.br id _ l hi hl
      match l, hbr, hl with
      | .arr sz' g n cap, hb, hl =>
        cases hv with
        | osl h => rw [hl] at h; cases h; exact fr hb
    · cases h
  · cases h
    have := hv.of_v
    subst this
    exact ⟨_, _, rfl, fun e he => by simp at he, fun h => absurd rfl h⟩
  · cases h

theorem go_len (args : Array Operand) (x : Operand) (t : TypeId) (ats : Array TypeId) (n : Int) (ho : o.op = .call { callee := .builtin .len, args := args, argTypes := ats }) (h0 : ats[0]? = some t) (ha : args[0]? = some x)
    (hx : (P.underlying t = some .string ∧ ∃ s, (compOpd x).ev ts = .v (.string s) ∧ n = s.size) ∨ (∃ e, P.underlying t = some (.slice e) ∧ ∃ sz es, elems mem ((compOpd x).ev ts) = some (sz, es) ∧ n = es.length))
    (hm : MR O F w B mem) (ht : TR F w B ts a) : Goes P O F w B o a (.ret (.v (.int .i64 n))) mem := by
  have h := opd_ok ht x
  refine .pure (x := .int .i64 n) ?_ hm (.v _)
  rcases hx with ⟨hu, s, hx, rfl⟩ | ⟨e, hu, sz, es, hx, rfl⟩
  · rw [hx] at h
    simp [execOp, ho, resolve, invoke, builtin, Builtin.len_, h0, ha, run_under hu, h.of_v, goInt]
  · obtain ⟨base, cap, e, _⟩ := elems_ok hx hm h
    simp [execOp, ho, resolve, invoke, builtin, Builtin.len_, h0, ha, run_under hu, e, goInt]

theorem go_lenA (args : Array Operand) (x : Operand) (t e : TypeId) (ats : Array TypeId) (n : Nat) (ho : o.op = .call { callee := .builtin .len, args := args, argTypes := ats }) (h0 : ats[0]? = some t) (ha : args[0]? = some x) (hu : P.underlying t = some (.array n e))
    (hm : MR O F w B mem) : Goes P O F w B o a (.ret (.v (.int .i64 n))) mem := by
  refine .pure (x := .int .i64 n) ?_ hm (.v _)
  simp [execOp, ho, resolve, invoke, builtin, Builtin.len_, h0, ha, run_under hu, goInt]

end
end Go.Proofs.YtjmgnodeohmboaaDoor.Am
