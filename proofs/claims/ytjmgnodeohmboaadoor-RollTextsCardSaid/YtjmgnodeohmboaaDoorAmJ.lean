/-
  THE ABSTRACT MACHINE: contracts as relations; a body in one word; what is only looked at; empty slices in what is handed. No program is named here.
-/
import Derived.Test.YtjmgnodeohmboaaDoorAmI
namespace Go.Proofs.YtjmgnodeohmboaaDoor.Am
set_option linter.unusedSimpArgs false
set_option linter.unusedVariables false
open Go

attribute [simp] elemsW nilQ nilV closeA

/-! ### A body in one word -/
def Good (P : Program) (f : FuncId) (ac : ACode) (rs : List ARes) : Prop :=
  ∃ (fn : Func) (c : Code), P.funcs[f]? = some fn ∧ fn.body = some c ∧ compCode P c = some ac.plain ∧ Fine ⟨fn.ntmps, []⟩ ac ∧ fn.results.toList.mapM (compRes P) = some rs ∧ (fn.name == "runtime.NumGoroutine") = false

/-- What is to be shown of a body, for a contract. -/
@[reducible] def WB (Γ : Env) (ac : ACode) (rs : List ARes) (sp : Spec) : Prop :=
  ∀ (args : List AV) (mem : List Blk) (r : Res) (mem1 : List Blk), sp args mem = some (r, mem1) → wpA Γ mem.length ac (finQ mem.length rs r mem1) (entry 0 args) mem

theorem Good.ok {P : Program} {f : FuncId} {ac : ACode} {rs : List ARes} {Γ : Env} (g : Good P f ac rs) (hΓ : EnvOk P Γ) (hmix : P.follows .mixedOrders = true) (sp : Spec) (h : WB Γ ac rs sp) : CallOk P f sp := by
  obtain ⟨fn, c, h1, h2, h3, h4, h5, h6⟩ := g
  exact ok_of_body hΓ hmix h1 h2 h3 h4 h5 h6 sp h
theorem Good.enters {P : Program} {f : FuncId} {ac : ACode} {rs : List ARes} (g : Good P f ac rs) : Enters P f := by
  obtain ⟨fn, c, h1, h2, h3, h4, h5, h6⟩ := g
  exact ⟨fn, h1, by rw [h2]; rfl, h6⟩

/-! ### Contracts as relations -/
open Classical in
noncomputable def spc {X : Type} (f : X → List AV × List Blk) (p : X → Prop) (g : X → Res × List Blk) : Spec := fun args mem =>
  if h : ∃ x, f x = (args, mem) ∧ p x then some (g h.choose) else none
theorem spc_some {X : Type} {f : X → List AV × List Blk} {p : X → Prop} {g : X → Res × List Blk} {args : List AV} {mem : List Blk} {r : Res} {mem1 : List Blk} (h : spc f p g args mem = some (r, mem1)) : ∃ x, f x = (args, mem) ∧ p x ∧ g x = (r, mem1) := by
  unfold spc at h
  split at h
  · rename_i hx
    exact ⟨hx.choose, hx.choose_spec.1, hx.choose_spec.2, Option.some.inj h⟩
  · cases h
theorem spc_at {X : Type} {f : X → List AV × List Blk} {p : X → Prop} {g : X → Res × List Blk} (inj : ∀ x y, f x = f y → x = y) (x : X) {d : Decidable (p x)} : spc f p g (f x).1 (f x).2 = if p x then some (g x) else none := by
  unfold spc
  by_cases hp : p x
  · have hx : ∃ y, f y = ((f x).1, (f x).2) ∧ p y := ⟨x, rfl, hp⟩
    rw [dif_pos hx, if_pos hp, inj _ x hx.choose_spec.1]
  · rw [if_neg hp, dif_neg]
    rintro ⟨y, h1, h2⟩
    rw [inj y x h1] at h2
    exact hp h2
theorem wb_spc {X : Type} {f : X → List AV × List Blk} {p : X → Prop} {g : X → Res × List Blk} {Γ : Env} {ac : ACode} {rs : List ARes}
    (h : ∀ x, p x → wpA Γ (f x).2.length ac (finQ (f x).2.length rs (g x).1 (g x).2) (entry 0 (f x).1) (f x).2) : WB Γ ac rs (spc f p g) := by
  intro args mem r mem1 hs
  obtain ⟨x, h1, h2, h3⟩ := spc_some hs
  have := h x h2
  rw [h1, h3] at this
  exact this

/-! ### What is only looked at -/
mutual
/-- Of such a value nothing is to be known of memory. -/
def AV.flat : AV → Bool
  | .agg cs => AV.flatAll cs
  | .tup cs => AV.flatAll cs
  | .any => true
  | .v _ => true
  | _ => false
def AV.flatAll : List AV → Bool
  | [] => true
  | a :: as => a.flat && AV.flatAll as
end
mutual
/-- As one sees it who only looks. -/
def AV.lend (mem : List Blk) : AV → AV
  | .agg cs => .agg (AV.lendAll mem cs)
  | .tup cs => .tup (AV.lendAll mem cs)
  | .fn g cs => .fn g (AV.lendAll mem cs)
  | .ifc t a => .ifc t (a.lend mem)
  | .osl id => match mem[id]? with
    | some (.arr _ sz es) => .fsl sz es
    | some (.frz a) => a
    | _ => .osl id
  | .ptr id i o => match mem[id]? with
    | some (.var cs) => if i = 0 ∧ AV.isBareAll (AV.frzAll mem cs) = true then .fptr (.agg (AV.frzAll mem cs)) o else .ptr id i o
    | some (.arr _ _ es) => match es[i]? with
      | some e => .fptr e o
      | none => .ptr id i o
    | _ => .ptr id i o
  | a => a
def AV.lendAll (mem : List Blk) : List AV → List AV
  | [] => []
  | a :: as => a.lend mem :: AV.lendAll mem as
end

section
variable {F G F' : Nat → Prop} {w w' : World} {B B' : List Loc} {mem : List Blk} {O : Nat → Prop}
mutual
theorem flat_ok : ∀ (a : AV) (x : Value), a.flat = true → VR F w B a x → VR F' w' B' a x
  | .any, x, _, _ => .any x
  | .v y, x, _, h => by have := h.of_v; subst this; exact .v _
  | .agg cs, x, hf, h => by obtain ⟨vs, rfl, hc⟩ := h.of_agg; exact .agg (flatAll_ok cs vs (by simpa only [AV.flat] using hf) hc)
  | .tup cs, x, hf, h => by obtain ⟨vs, rfl, hc⟩ := h.of_tup; exact .tup (flatAll_ok cs vs (by simpa only [AV.flat] using hf) hc)
  | .fsl .., _, hf, _ => by simp [AV.flat] at hf
  | .osl .., _, hf, _ => by simp [AV.flat] at hf
  | .ptr .., _, hf, _ => by simp [AV.flat] at hf
  | .fptr .., _, hf, _ => by simp [AV.flat] at hf
  | .win .., _, hf, _ => by simp [AV.flat] at hf
  | .fn .., _, hf, _ => by simp [AV.flat] at hf
  | .ifc .., _, hf, _ => by simp [AV.flat] at hf
theorem flatAll_ok : ∀ (as : List AV) (xs : List Value), AV.flatAll as = true → CR F w B as xs → CR F' w' B' as xs
  | [], xs, _, h => by cases h; exact .nil
  | a :: as, xs, hf, h => by
    simp only [AV.flatAll, Bool.and_eq_true] at hf
    cases h with
    | cons h t => exact .cons (flat_ok a _ hf.1 h) (flatAll_ok as _ hf.2 t)
end

mutual
theorem lend_ok (hm : MR O F w B mem) (hG : ∀ b, F b → G b) (hO : ∀ i b, ownB mem B i = some b → G b) : ∀ (x : AV) (y : Value), VR F w B x y → VR G w B (x.lend mem) y
  | .any, y, h => by simpa only [AV.lend] using up hG h
  | .v v, y, h => by simpa only [AV.lend] using up hG h
  | .fsl sz es, y, h => by simpa only [AV.lend] using up hG h
  | .fptr e k, y, h => by simpa only [AV.lend] using up hG h
  | .win i o n, y, h => by simpa only [AV.lend] using up hG h
  | .agg cs, y, h => by obtain ⟨vs, rfl, hc⟩ := h.of_agg; simp only [AV.lend]; exact .agg (lendAll_ok hm hG hO cs vs hc)
  | .tup cs, y, h => by obtain ⟨vs, rfl, hc⟩ := h.of_tup; simp only [AV.lend]; exact .tup (lendAll_ok hm hG hO cs vs hc)
  | .fn f cs, y, h => by obtain ⟨vs, rfl, hc⟩ := h.of_fn; simp only [AV.lend]; exact .fn (lendAll_ok hm hG hO cs vs hc)
  | .ifc t c, y, h => by obtain ⟨z, rfl, hc⟩ := h.of_ifc; simp only [AV.lend]; exact .ifc (lend_ok hm hG hO c z hc)
  | .osl id, y, h => by
    have := frz_ok hm hG (.osl id) y h (fun i hi b t sz es h1 h2 => hO i b h2)
    unfold AV.frz at this
    unfold AV.lend
    split
    · rename_i t sz es hi; rw [hi] at this; exact this
    · rename_i a hi; rw [hi] at this; exact this
    · exact up hG h
  | .ptr id i o, y, h => by
    unfold AV.lend
    split
    · rename_i cs hi
      split
      · rename_i hc
        obtain ⟨rfl, hb⟩ := hc
        have hlt := (List.getElem?_eq_some_iff.1 hi).1
        obtain ⟨l, hl⟩ : ∃ l, B[id]? = some l := ⟨_, List.getElem?_eq_getElem (by rw [hm.len]; exact hlt)⟩
        have hbr := hm.br id _ l hi hl
        match l, hbr, hl with
        | .var b, ⟨t, xs, h1, h2⟩, hl =>
          cases h with
          | ptrV h =>
            rw [hl] at h; cases h
            have hc2 := frzAll_ok hm hG cs xs h2 (fun i hi b t sz es h1 h2 => hO i b h2)
            have := VR.fptr (F := G) (w := w) (B := B) (e := .agg (AV.frzAll mem cs)) b 0 o (hc2.toBare hb) (hO id b (ownB_mk hi hl rfl rfl)) (fun j y hj => by
              simp only [World.cell?, h1]; simpa using hj)
            simpa using this
          | ptrA h => rw [hl] at h; cases h
      · exact up hG h
    · rename_i t sz es hi
      split
      · rename_i e he
        have hlt := (List.getElem?_eq_some_iff.1 hi).1
        obtain ⟨l, hl⟩ : ∃ l, B[id]? = some l := ⟨_, List.getElem?_eq_getElem (by rw [hm.len]; exact hlt)⟩
        have hbr := hm.br id _ l hi hl
        match l, hbr, hl with
        | .arr sz' g n cap, ⟨q1, q2, q3, q4, xs, q5, q6⟩, hl =>
          subst q1
          cases h with
          | ptrV h => rw [hl] at h; cases h
          | @ptrA _ _ _ _ g' sz'' n' cap' h =>
            rw [hl] at h; cases h
            have hel := q4 e (List.mem_of_getElem? he)
            have hin := (List.getElem?_eq_some_iff.1 he).1
            have hat : ∀ j y, ((xs.drop (i * sz)).take sz)[j]? = some y → w.cell? ⟨g', i * sz + j, none⟩ = some y := by
              intro j y hj
              rw [List.getElem?_take] at hj
              split at hj
              · rw [List.getElem?_drop] at hj
                have := q5.cells (g := g') rfl _ _ hj
                rw [add_plain] at this
                simpa using this
              · cases hj
            have hcr : CR G w [] e.cells ((xs.drop (i * sz)).take sz) := by
              have h1 : CR F w [] (((AV.cellsAll es).drop (i * sz)).take sz) ((xs.drop (i * sz)).take sz) := (q6.drop _).take _
              have h2 : ((AV.cellsAll es).drop (i * sz)).take sz = e.cells := by
                rw [← cellsAll_drop es i q4, List.drop_eq_getElem_cons hin]
                have : es[i] = e := by rw [List.getElem?_eq_getElem hin] at he; exact Option.some.inj he
                rw [this, AV.cellsAll, List.take_left' hel]
              rw [h2] at h1
              exact (h1.mono ⟨hG, fun _ _ h => h, fun _ _ => rfl⟩)
            exact .fptr g' (i * sz) o hcr (hO id g' (ownB_mk hi hl rfl rfl)) hat
      · exact up hG h
    · exact up hG h
theorem lendAll_ok (hm : MR O F w B mem) (hG : ∀ b, F b → G b) (hO : ∀ i b, ownB mem B i = some b → G b) : ∀ (xs : List AV) (ys : List Value), CR F w B xs ys → CR G w B (AV.lendAll mem xs) ys
  | [], ys, h => by cases h; exact .nil
  | x :: xs, ys, h => by
    cases h with
    | cons h t => exact .cons (lend_ok hm hG hO x _ h) (lendAll_ok hm hG hO xs _ t)
end
end

def borrowO (mem : List Blk) : Option (Res × List Blk) → Option (Res × List Blk)
  | some (.ret r, []) => if r.flat = true then some (.ret r, mem) else none
  | _ => none
/-- The contract of one who only looks, for what is the caller's own. -/
def borrow (sp : Spec) : Spec := fun args mem => if AV.isBareAll (AV.lendAll mem args) = true then borrowO mem (sp (AV.lendAll mem args) []) else none

theorem CallOk.borrow {P : Program} {f : FuncId} {sp : Spec} (he : Enters P f) (h : CallOk P f sp) : CallOk P f (borrow sp) := by
  refine .inl ⟨he, ?_⟩
  intro args mem r mem1 hsp O F B w vs hO hm ha
  unfold Am.borrow at hsp
  obtain ⟨hb, hsp⟩ := if_some hsp
  unfold borrowO at hsp
  split at hsp
  case h_2 => cases hsp
  rename_i r0 hr0
  obtain ⟨hfl, hsp⟩ := if_some hsp
  cases hsp
  have hG : ∀ b, (F b ∨ ∃ i, ownB mem B i = some b) → b < w.heap.size := fun b hb => hm.old hb
  have hlend := (lendAll_ok (G := fun b => F b ∨ ∃ i, ownB mem B i = some b) hm (fun b h => .inl h) (fun i b h => .inr ⟨i, h⟩) args vs ha).toBare hb
  have hm0 : MR (fun b => w.heap.size ≤ b) (fun b => F b ∨ ∃ i, ownB mem B i = some b) w [] [] := by
    refine ⟨rfl, fun i b l h => by simp at h, fun i j b h => ?_, fun i b h => ?_, hG, hm.gl.same fun _ h => .inl h⟩
    · obtain ⟨_, _, h1, _⟩ := ownB_some h; simp at h1
    · obtain ⟨_, _, h1, _⟩ := ownB_some h; simp at h1
  rcases h with ⟨_, h⟩ | h | h
  · refine (h _ [] _ [] hr0 (fun b => w.heap.size ≤ b) _ [] w vs (fun b hb => hb) hm0 hlend).mono ?_
    rintro e w' ⟨F', B', _, _, hev, _, hr⟩
    have keep : ∀ b, (F b ∨ ∃ i, ownB mem B i = some b) → w'.heap[b]? = w.heap[b]? := fun b hb => hev.block b (hG b hb) (by have := hG b hb; omega)
    refine ⟨F, B, hm.go hev.size keep, ⟨fun _ h => h, fun _ _ h => h, fun b hb => keep b (.inl hb)⟩, ⟨hev.os, hev.tape, hev.output, hev.size, fun k hk _ => hev.block k hk (by omega)⟩, fun _ h => .inl h, ?_⟩
    cases e with
    | returned y => simp only [RelRes] at hr ⊢; exact flat_ok r0 y hfl hr
    | panicked ch => exact hr.elim
    | outgrown => exact hr.elim
  · obtain ⟨_, _, v, hv, hx⟩ := h _ [] _ [] hr0
    obtain ⟨y, hy, _⟩ := hx _ w vs hlend
    rw [enters_run he] at hy
    cases hy
  · obtain ⟨_, v, hv, hx⟩ := h _ [] _ [] hr0
    obtain ⟨y, hy, _⟩ := hx _ _ [] w vs hm0 hlend
    rw [enters_run he] at hy
    cases hy

theorem borrowO_ret (mem : List Blk) (r : AV) : borrowO mem (some (.ret r, [])) = if r.flat = true then some (.ret r, mem) else none := rfl
theorem borrowO_none (mem : List Blk) : borrowO mem none = none := rfl
theorem borrowO_if (mem : List Blk) (c : Prop) [Decidable c] (x : Option (Res × List Blk)) : borrowO mem (if c then x else none) = if c then borrowO mem x else none := by split <;> rfl
theorem borrowO_cond (mem : List Blk) (b : Bool) (x y : Option (Res × List Blk)) : borrowO mem (bif b then x else y) = bif b then borrowO mem x else borrowO mem y := by cases b <;> rfl
attribute [simp] borrow borrowO_ret borrowO_none borrowO_if borrowO_cond AV.flat AV.flatAll AV.lend AV.lendAll

/-! ### Empty slices in what is handed -/
inductive Fx where
  | no
  | k (n : Nat)
  | agg (l : List Fx)
mutual
def fxA : Fx → AV → AV
  | .no, a => a
  | .k n, a => fix1 n a
  | .agg fs, .agg cs => .agg (fxL fs cs)
  | .agg _, a => a
def fxL : List Fx → List AV → List AV
  | f :: fs, a :: as => fxA f a :: fxL fs as
  | _, as => as
end
mutual
theorem fxA_ok {F : Nat → Prop} {w : World} {B : List Loc} : ∀ (f : Fx) {a : AV} {x : Value}, VR F w B a x → VR F w B (fxA f a) x
  | .no, a, x, h => by unfold fxA; exact h
  | .k n, a, x, h => by unfold fxA; exact fix1_ok h
  | .agg fs, a, x, h => by
    cases a with
    | agg cs => obtain ⟨vs, rfl, hc⟩ := h.of_agg; unfold fxA; exact .agg (fxL_ok fs hc)
    | _ => simpa [fxA] using h
theorem fxL_ok {F : Nat → Prop} {w : World} {B : List Loc} : ∀ (fs : List Fx) {as : List AV} {xs : List Value}, CR F w B as xs → CR F w B (fxL fs as) xs
  | [], as, xs, h => by unfold fxL; exact h
  | f :: fs, [], xs, h => by unfold fxL; exact h
  | f :: fs, a :: as, xs, h => by
    cases h with
    | cons h t => unfold fxL; exact .cons (fxA_ok f h) (fxL_ok fs t)
end
def fixD (fs : List Fx) (sp : Spec) : Spec := fun args mem => sp (fxL fs args) mem
theorem CallOk.fixD {P : Program} {f : FuncId} {sp : Spec} (fs : List Fx) (h : CallOk P f sp) : CallOk P f (fixD fs sp) := by
  rcases h with ⟨h1, h2⟩ | h | h
  · refine .inl ⟨h1, ?_⟩
    intro args mem r mem1 hsp O F B w vs hO hm ha
    exact h2 (fxL fs args) mem r mem1 hsp O F B w vs hO hm (fxL_ok fs ha)
  · refine .inr (.inl ?_)
    intro args mem r mem1 hsp
    obtain ⟨e1, e2, v, e3, e4⟩ := h (fxL fs args) mem r mem1 hsp
    exact ⟨e1, e2, v, e3, fun F w vs hc => e4 F w vs (fxL_ok fs hc)⟩
  · refine .inr (.inr ?_)
    intro args mem r mem1 hsp
    obtain ⟨e1, v, e3, e4⟩ := h (fxL fs args) mem r mem1 hsp
    exact ⟨e1, v, e3, fun O F B w vs hm hc => e4 O F B w vs hm (fxL_ok fs hc)⟩
attribute [simp] fixD fxA fxL

/-! ### Notes -/
section
variable {Γ : Env} {N : Nat} {Q : Post} {ts : Tm} {m : List Blk} {d : Nat} {b : ACode}
theorem wp_conc_out {a : ACode} (h : wpA Γ N (.conc d (.seq a b)) Q ts m) : wpA Γ N (.seq (.conc d a) b) Q ts m := h
theorem wp_open_out {a : ACode} (h : wpA Γ N (.open_ d (.seq a b)) Q ts m) : wpA Γ N (.seq (.open_ d a) b) Q ts m := h
theorem wp_pack_out {ks : List Nat} {a : ACode} (h : wpA Γ N (.pack ks (.seq a b)) Q ts m) : wpA Γ N (.seq (.pack ks a) b) Q ts m := h
theorem wp_conc_nil {sz : Nat} (h : tget ts d = .fsl sz []) (k : ∀ (base : Option Addr) (cap : Nat), wpA Γ N b Q (tput (tkill [d] ts) (some d) (.v (.slice base 0 cap))) m) : wpA Γ N (.conc d b) Q ts m := by
  show concA d ts fun ts => wpA Γ N b Q ts m
  unfold concA; rw [h]; exact k
theorem wp_conc_cons {sz : Nat} {e : AV} {es : List AV} (h : tget ts d = .fsl sz (e :: es)) (k : wpA Γ N b Q ts m) : wpA Γ N (.conc d b) Q ts m := by
  show concA d ts fun ts => wpA Γ N b Q ts m
  unfold concA; rw [h]; exact k
theorem wp_open_at {id t sz : Nat} {es : List AV} (h : tget ts d = .osl id) (hi : m[id]? = some (.arr t sz es))
    (h1 : ∀ k : Nat, es.length + k ≤ maxLen → wpA Γ N b Q (tput (tkill [d] ts) (some d) (.win id 0 es.length)) (m.set id (.buf t sz (es ++ List.replicate k (.agg (List.replicate sz .any))))))
    (h2 : es = [] → wpA Γ N b Q (tput (tkill [d] ts) (some d) (.v (.slice none 0 0))) (m.set id .gone)) : wpA Γ N (.open_ d b) Q ts m := by
  show openA d ts m fun ts m => wpA Γ N b Q ts m
  unfold openA; rw [h]; simp only [hi]; exact ⟨h1, h2⟩
end

/-! ### A bool that comes back -/
theorem post_bool {rs : List ARes} {x y : Bool} {ts : Tm} {m : List Blk} (h1 : Am.resAll ts m rs = some [.v (.bool x)]) (h : x = y) : finQ 0 rs (.ret (.v (.bool y))) [] .ret ts m := by
  subst h; exact post_fin h1 rfl ⟨[], [], rfl, rfl, rfl, rfl⟩
end Go.Proofs.YtjmgnodeohmboaaDoor.Am
