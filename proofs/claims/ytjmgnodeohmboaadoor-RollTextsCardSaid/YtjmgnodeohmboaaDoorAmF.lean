/-
  THE ABSTRACT MACHINE, SIXTEENTH PART: a body that defers a closure which recovers: its two named results are cells. No program is named here.
-/
import Derived.Test.YtjmgnodeohmboaaDoorAmE
import Derived.Recover
namespace Go.Proofs.YtjmgnodeohmboaaDoor.Am
set_option linter.unusedSimpArgs false
set_option linter.unusedVariables false
open Go

/-- The parts of a body that defers. -/
def dfr0 : Code → Code
  | .seq a _ => a
  | c => c
def dfr2 : Code → Code
  | .seq _ (.seq _ c) => c
  | c => c

def cellP (b : Nat) : Value := .pointer (some ⟨b, 0, none⟩)

/-- What a deferred closure does that has two cells: nothing behind a return; behind a panic it recovers and lays values. -/
def Catches (P : Program) (g : FuncId) (eff : AV → Option (Value × Value)) : Prop :=
  (∀ (b1 b2 : Nat) (w : World), CallsD P g #[cellP b1, cellP b2] .returning w fun e u' w' => (∃ r, e = .returned r) ∧ u' = .returning ∧ w' = w) ∧
  (∀ (b1 b2 : Nat) (w : World) (F : Nat → Prop) (B : List Loc) (v : AV) (x y1 y2 z1 z2 : Value) (t1 t2 : TypeId), VR F w B v x → eff v = some (y1, y2) → b1 ≠ b2 → w.heap[b1]? = some (.cells #[z1] t1 (0, 0)) → w.heap[b2]? = some (.cells #[z2] t2 (0, 0)) →
    CallsD P g #[cellP b1, cellP b2] (.panicking [{ v := x, recovered := false }]) w fun e u' w' =>
      (∃ r, e = .returned r) ∧ u' = .panicking [{ v := x, recovered := true }] ∧ w' = (w.setCell ⟨b1, 0, none⟩ y1).setCell ⟨b2, 0, none⟩ y2)

/-- How such a body may end. -/
def dfrQ (N : Nat) (rs : List ARes) (r : Res) (mem1 : List Blk) (c1 c2 i1 i2 : Nat) (eff : AV → Option (Value × Value)) : Post
  | .normal, ts, m | .ret, ts, m => finQ N rs r mem1 .ret ts m
  | .pan v, _, m => ∃ y1 y2 z1 z2, eff v = some (y1, y2) ∧ m[i1]? = some (.var [z1]) ∧ m[i2]? = some (.var [z2]) ∧
      finQ N rs r mem1 .ret [(c1, .ptr i1 0 0), (c2, .ptr i2 0 0)] ((m.set i1 (.var [.v y1])).set i2 (.var [.v y2]))
  | .exit _, _, _ => False

/-- The state, just so. -/
def atQ (ts0 : Tm) (m0 : List Blk) : Post
  | .normal, ts, m => ts = ts0 ∧ m = m0
  | _, _, _ => False

section
variable {P : Program} {O F0 F : Nat → Prop} {w0 w w' : World} {B0 B : List Loc} {ts : Tm} {mem mem' : List Blk} {a : Act} {o : Oper}

theorem setCell_heap (w : World) (b : Nat) (z y : Value) (t : TypeId) (h : w.heap[b]? = some (.cells #[z] t (0, 0))) : (w.setCell ⟨b, 0, none⟩ y).heap[b]? = some (.cells #[y] t (0, 0)) := by
  simp [World.setCell, Array.getElem?_modify, h]

theorem setCell_other (w : World) (b c : Nat) (y : Value) (h : c ≠ b) : (w.setCell ⟨b, 0, none⟩ y).heap[c]? = w.heap[c]? := by
  simp [World.setCell, Array.getElem?_modify, Ne.symm h]

theorem MR.setVar (hm : MR O F w B mem) {i b : Nat} {z : AV} (hi : mem[i]? = some (.var [z])) (hl : B[i]? = some (.var b)) (y : Value) :
    MR O F (w.setCell ⟨b, 0, none⟩ y) B (mem.set i (.var [.v y])) ∧ Ext F F w (w.setCell ⟨b, 0, none⟩ y) B B ∧ Ev O w (w.setCell ⟨b, 0, none⟩ y) := by
  obtain ⟨t, xs, h1, h2⟩ := hm.br i _ _ hi hl
  obtain ⟨x, rfl, _⟩ := h2.of_one
  obtain ⟨m1, e1⟩ := hm.write (w' := w.setCell ⟨b, 0, none⟩ y) (k := .var [.v y]) hi hl rfl rfl (by simp [World.setCell]) (fun c hc => setCell_other w b c y hc)
    (fun _ => ⟨t, [y], setCell_heap w b x y t h1, .one (.v y)⟩)
  exact ⟨m1, e1, ⟨rfl, rfl, rfl, by simp [World.setCell], fun c _ ho => setCell_other w b c y (fun hcb => ho (hcb ▸ (hm.own i b (ownB_mk hi hl rfl rfl)).1))⟩⟩

theorem dfr_region {Q : Exit → Act → World → Prop} {id g d c1 c2 : Nat} {o1 o2 : Oper} {ats : Array TypeId}
    (h1 : o1.op = .makeFunc (.func g) #[] #[.tmp c1, .tmp c2]) (hd1 : o1.dst = some d) (hg1 : o1.guard = none)
    (h2 : o2.op = .defer { callee := .value (.tmp d), args := #[], argTypes := ats }) (hd2 : o2.dst = none) (hg2 : o2.guard = none) (hd : d < a.tmps.size) {p1 p2 : Value} (hp1 : a.tmps[c1]? = some p1) (hp2 : a.tmps[c2]? = some p2)
    (hK : Q .normal { a.put (some d) (.func (.func g) #[] #[p1, p2]) with defers := { target := .fn (.func g) #[p1, p2], args := #[] } :: a.defers } w) :
    (Code.region id #[o1, o2] false).wp P Q a w := by
  refine wp_region_list ?_
  obtain ⟨dst1, op1, ty1, pos1, af1, gd1⟩ := o1
  obtain ⟨dst2, op2, ty2, pos2, af2, gd2⟩ := o2
  simp only at h1 hd1 hg1 h2 hd2 hg2
  subst h1; subst hd1; subst hg1; subst h2; subst hd2; subst hg2
  have hv : (resolve ({ tmps := a.tmps.setIfInBounds d (Value.func (.func g) #[] #[p1, p2]), defers := a.defers } : Act).eval { callee := .value (.tmp d), args := #[], argTypes := ats } ty2).run P w = .ok { target := .fn (.func g) #[p1, p2], args := #[] } w := by
    simp [resolve, Deferred.ofValue, Act.eval, hd]
  simp [wpList, Region.wanted, Oper.wp, execOp, Instr.makeFunc, Oper.upon, Act.eval, hp1, hp2, Act.put, hd]
  left; left
  simp only [Act.put, hd] at hK
  rw [show ({ tmps := a.tmps.setIfInBounds d (Value.func (.func g) #[] #[p1, p2]), defers := a.defers } : Act).eval = _ from rfl] at hv
  rw [hv]; simpa using hK

theorem enters_run {g : FuncId} (hg : Enters P g) (args : Array Value) : (callFunc g args).run P w = .ok (.enter g args) w := by
  obtain ⟨fn, hf, hb, hne⟩ := hg
  have hbn : fn.body ≠ none := by intro e; simp [e] at hb
  have hne' : fn.name ≠ "runtime.NumGoroutine" := by simpa using hne
  simp [callFunc, hf, hne', hbn]

theorem settle_ret : settle .returning = .returning := rfl

theorem leaves_done {fn : Func} {tmps : Array Value} {R : Ending → World → Prop} {w : World} (h : ∃ v, (results fn tmps).run P w = .ok v w ∧ R (.returned v) w) : Leaves P fn tmps R [] .returning w := h

theorem ptrV_of {F : Nat → Prop} {i : Nat} {x : Value} (h : VR F w B (.ptr i 0 0) x) {z : AV} (hm : mem[i]? = some (.var [z])) (hl : MR O F w B mem) : ∃ b, B[i]? = some (.var b) ∧ x = cellP b := by
  cases h with
  | @ptrV _ _ b _ hb => exact ⟨b, hb, rfl⟩
  | @ptrA _ _ _ _ g sz n cap hb => exact (hl.br i _ _ hm hb).elim

/-- A CONTRACT OUT OF A BODY THAT DEFERS A CLOSURE WHICH RECOVERS. -/
theorem ok_of_defer {Γ : Env} (hΓ : EnvOk P Γ) (hmix : P.follows .mixedOrders = true) {f : FuncId} {fn : Func} {c0 c : Code} {id g d c1 c2 : Nat} {o1 o2 : Oper} {ats : Array TypeId} {ac0 ac : ACode} {rs : List ARes} {eff : AV → Option (Value × Value)}
    (hf : P.funcs[f]? = some fn) (hb : fn.body = some (.seq c0 (.seq (.region id #[o1, o2] false) c)))
    (hc0 : compCode P c0 = some ac0.plain) (hfine0 : Fine ⟨fn.ntmps, []⟩ ac0) (hc : compCode P c = some ac.plain) (hfine : Fine ⟨fn.ntmps, [c1, c2]⟩ ac)
    (hr : fn.results.toList.mapM (compRes P) = some rs) (hname : (fn.name == "runtime.NumGoroutine") = false)
    (h1 : o1.op = .makeFunc (.func g) #[] #[.tmp c1, .tmp c2]) (hd1 : o1.dst = some d) (hg1 : o1.guard = none)
    (h2 : o2.op = .defer { callee := .value (.tmp d), args := #[], argTypes := ats }) (hd2 : o2.dst = none) (hg2 : o2.guard = none)
    (hlt : d < fn.ntmps) (hlt1 : c1 < fn.ntmps) (hlt2 : c2 < fn.ntmps) (hdc : d ≠ c1 ∧ d ≠ c2 ∧ c1 ≠ c2) (hgo : Enters P g) (hcat : Catches P g eff) (sp : Spec)
    (h : ∀ args mem r mem1, sp args mem = some (r, mem1) → ∃ ts0 m0 i1 i2 z1 z2, mem.length ≤ m0.length ∧ wpA Γ mem.length ac0 (atQ ts0 m0) (entry 0 args) mem ∧ tget ts0 c1 = .ptr i1 0 0 ∧ tget ts0 c2 = .ptr i2 0 0 ∧ i1 ≠ i2 ∧
      m0[i1]? = some (.var [z1]) ∧ m0[i2]? = some (.var [z2]) ∧ wpA Γ m0.length ac (dfrQ mem.length rs r mem1 c1 c2 i1 i2 eff) (tput ts0 (some d) .any) m0) : CallOk P f sp := by
  refine .inl ⟨⟨fn, hf, by simp [hb], hname⟩, ?_⟩
  intro args mem r mem1 hsp O F B w vs hO hm ha
  obtain ⟨ts0, m0, i1, i2, z1, z2, hlen0, hwp0, ht1, ht2, hne, hm1, hm2, hwp⟩ := h args mem r mem1 hsp
  have habs : Abs ⟨⟨fn.ntmps, []⟩, [], fun _ => undef⟩ O F w B (entry 0 args) mem { tmps := vs.toArray ++ Array.replicate (fn.ntmps - vs.toArray.size) undef, defers := [] } w := by
    refine ⟨⟨rfl, fun _ h => by cases h⟩, by simp; omega, F, B, hm, ?_, .refl F w B, .refl O w, fun _ h => .inl h⟩
    refine entry_ok args vs 0 _ ha (fun i x hi => ?_)
    have := (List.getElem?_eq_some_iff.1 hi).1
    rw [Nat.zero_add, Array.getElem?_append_left (by simpa using this)]
    simpa using hi
  refine calls_of_wp_defers hf hb (wp_seq (wp_mono (code_sound hΓ hmix hm.len hO ac0 c0 _ _ _ _ w hc0 hfine0.1 (pairs_eq hfine0.2) hwp0 habs) ?_))
  intro e a1 w1 he
  cases e with
  | normal =>
    obtain ⟨ts1, m1, ⟨rfl, rfl⟩, hab⟩ := he
    obtain ⟨⟨hd0, _⟩, hT, F1, B1, k1, k2, k3, k4, k5⟩ := hab
    have hv1 := k2 c1
    have hv2 := k2 c2
    rw [ht1] at hv1
    rw [ht2] at hv2
    obtain ⟨b1, hB1, hx1⟩ := ptrV_of hv1 hm1 k1
    obtain ⟨b2, hB2, hx2⟩ := ptrV_of hv2 hm2 k1
    have hTn : fn.ntmps ≤ a1.tmps.size := hT
    have hp : ∀ {k : Nat} {x : Value}, k < fn.ntmps → a1.tmps.getD k undef = x → a1.tmps[k]? = some x := by
      intro k x hk he
      rw [Array.getD_eq_getD_getElem?, Array.getElem?_eq_getElem (Nat.lt_of_lt_of_le hk hTn)] at he
      rw [Array.getElem?_eq_getElem (Nat.lt_of_lt_of_le hk hTn)]
      simpa using he
    have hb12 : b1 ≠ b2 := by
      intro hbb
      have q1 := ownB_mk hm1 hB1 rfl rfl
      have q2 := ownB_mk hm2 hB2 rfl rfl
      exact hne (k1.sep i1 i2 b1 q1 (hbb ▸ q2))
    refine wp_seq (dfr_region (P := P) h1 hd1 hg1 h2 hd2 hg2 (Nat.lt_of_lt_of_le hlt hTn) (hp hlt1 hx1) (hp hlt2 hx2) ?_)
    have hO1 : ∀ b, w1.heap.size ≤ b → O b := fun b hb => hO b (Nat.le_trans k4.size hb)
    let dd : Deferred := { target := .fn (.func g) #[cellP b1, cellP b2], args := #[] }
    let fv : Value := .func (.func g) #[] #[cellP b1, cellP b2]
    have habs1 : Abs ⟨⟨fn.ntmps, [c1, c2]⟩, [dd], fun k => if k = c1 then cellP b1 else cellP b2⟩ O F1 w1 B1 (tput ts1 (some d) .any) m1 { a1.put (some d) fv with defers := dd :: a1.defers } w1 := by
      refine ⟨⟨by simp [hd0], fun k hk => ?_⟩, ?_, F1, B1, k1, ?_, .refl F1 w1 B1, .refl O w1, fun _ h => .inl h⟩
      · simp only [Act.put]
        have hk' : k = c1 ∨ k = c2 := by simpa using hk
        have hkd : d ≠ k := by rcases hk' with rfl | rfl; exact hdc.1; exact hdc.2.1
        rw [Array.getD_eq_getD_getElem?, Array.getElem?_setIfInBounds_ne hkd, ← Array.getD_eq_getD_getElem?]
        rcases hk' with rfl | rfl
        · simpa using hx1
        · rw [if_neg (Ne.symm hdc.2.2)]; exact hx2
      · simpa [Act.put] using hTn
      · rw [tget_tput]
        exact put_ts k2 (some d) (fun k hk => by cases hk; exact Nat.lt_of_lt_of_le hlt hTn) (.any _)
    refine wp_mono (code_sound (T := ⟨⟨fn.ntmps, [c1, c2]⟩, [dd], fun k => if k = c1 then cellP b1 else cellP b2⟩) hΓ hmix k1.len hO1 ac c _ _ _ _ w1 hc hfine.1 (pairs_eq hfine.2) hwp habs1) ?_
    have fin : ∀ (v v1 : AV) (m : List Blk) (x : Value) (w' : World) (F' : Nat → Prop) (B' : List Loc), finV mem.length m v v1 mem1 → MR O F' w' B' m → VR F' w' B' v x → Ext F F' w w' B B' → Ev O w w' → (∀ b, F' b → F b ∨ O b) →
        ∃ (G : Nat → Prop) (B1 : List Loc), MR O G w' B1 mem1 ∧ Ext F G w w' B B1 ∧ Ev O w w' ∧ (∀ b, G b → F b ∨ O b) ∧ VR G w' B1 v1 x := by
      intro v v1 m x w' F' B' h1 h2 h3 h4 h5 h6
      obtain ⟨G, B1, g1, g2, g3, g4, g5⟩ := fin_ok h1 hm.len h4.pl h2 h3
      refine ⟨G, B1, g1, ⟨fun b hb => g3 b (h4.fr b hb), g5, h4.hp⟩, h5, fun b hb => ?_, g2⟩
      rcases g4 b hb with hb | hb
      · exact h6 b hb
      · exact .inr hb
    have last : ∀ (ts : Tm) (m : List Blk) (a' : Act) (w' : World) (F' : Nat → Prop) (B' : List Loc), finQ mem.length rs r mem1 .ret ts m → MR O F' w' B' m → TR F' w' B' (tget ts) a' → Ext F F' w w' B B' → Ev O w w' → (∀ b, F' b → F b ∨ O b) →
        ∃ v, (results fn a'.tmps).run P w' = .ok v w' ∧ ∃ (F' : Nat → Prop) (B' : List Loc), MR O F' w' B' mem1 ∧ Ext F F' w w' B B' ∧ Ev O w w' ∧ (∀ b, F' b → F b ∨ O b) ∧ RelRes F' w' B' r (.returned v) := by
      intro ts m a' w' F' B' hq q1 q2 q3 q4 q5
      cases r with
      | pan _ => exact hq.elim
      | ret v1 =>
        obtain ⟨vs', v2, g1, g2, hsame⟩ := hq
        obtain ⟨x, g3, g4⟩ := results_run (P := P) hr g1 q1 q2
        obtain ⟨G, B1, p1, p2, p3, p4, p5⟩ := fin _ _ m x w' F' B' g2 q1 g4 q3 q4 q5
        exact ⟨x, g3, G, B1, p1, p2, p3, p4, hsame.ok p5⟩
    have both : ∀ {F' : Nat → Prop} {w' : World} {B' : List Loc}, Ext F1 F' w1 w' B1 B' → Ev O w1 w' → (∀ b, F' b → F1 b ∨ O b) → Ext F F' w w' B B' ∧ Ev O w w' ∧ ∀ b, F' b → F b ∨ O b := by
      intro F' w' B' q3 q4 q5
      refine ⟨k3.trans q3, k4.trans q4, fun b hb => ?_⟩
      rcases q5 b hb with hb | hb
      · exact k5 b hb
      · exact .inr hb
    have norm : ∀ (ts : Tm) (m : List Blk) (a' : Act) (w' : World), finQ mem.length rs r mem1 .ret ts m → Abs ⟨⟨fn.ntmps, [c1, c2]⟩, [dd], fun k => if k = c1 then cellP b1 else cellP b2⟩ O F1 w1 B1 ts m a' w' →
        Leaves P fn a'.tmps (fun e w' => ∃ (F' : Nat → Prop) (B' : List Loc), MR O F' w' B' mem1 ∧ Ext F F' w w' B B' ∧ Ev O w w' ∧ (∀ b, F' b → F b ∨ O b) ∧ RelRes F' w' B' r e) a'.defers .returning w' := by
      intro ts m a' w' hq hab
      obtain ⟨⟨hd, _⟩, _, F', B', q1, q2, q3, q4, q5⟩ := hab
      obtain ⟨e3, e4, e5⟩ := both q3 q4 q5
      rw [hd]
      refine leaves_cons (f := g) (args := #[cellP b1, cellP b2]) (by simp) (by simpa [go_sem] using enters_run hgo _) ((hcat.1 b1 b2 w').mono ?_)
      rintro e u' w'' ⟨⟨v, rfl⟩, rfl, rfl⟩
      exact leaves_done (last ts m a' w'' F' B' hq q1 q2 e3 e4 e5)
    intro e a' w' he
    cases e with
    | normal => obtain ⟨ts, m, g1, g2⟩ := he; exact norm ts m a' w' g1 g2
    | ret => obtain ⟨ts, m, g1, g2⟩ := he; exact norm ts m a' w' g1 g2
    | panic ch =>
      obtain ⟨v, m, x, hq, rfl, ⟨hd, hval⟩, F', B', q1, q2, q3, q4, q5⟩ := he
      obtain ⟨y1, y2, z1', z2', he, hi1, hi2, hq⟩ := hq
      have hB1' := q3.pl _ _ hB1
      have hB2' := q3.pl _ _ hB2
      obtain ⟨t1, xs1, hh1, hc1⟩ := q1.br _ _ _ hi1 hB1'
      obtain ⟨t2, xs2, hh2, hc2⟩ := q1.br _ _ _ hi2 hB2'
      obtain ⟨x1, rfl, _⟩ := hc1.of_one
      obtain ⟨x2, rfl, _⟩ := hc2.of_one
      have s1 := q1.setVar hi1 hB1' y1
      have hi2' : (m.set i1 (.var [.v y1]))[i2]? = some (.var [z2']) := by rw [List.getElem?_set_ne hne]; exact hi2
      have s2 := s1.1.setVar hi2' hB2' y2
      show Leaves P fn a'.tmps _ a'.defers (.panicking [{ v := x, recovered := false }]) w'
      rw [hd]
      refine leaves_cons (f := g) (args := #[cellP b1, cellP b2]) (by simp) (by simpa [go_sem] using enters_run hgo _) ((hcat.2 b1 b2 w' F' B' v x y1 y2 x1 x2 t1 t2 q2 he hb12 hh1 hh2).mono ?_)
      rintro e u' w'' ⟨⟨v', rfl⟩, rfl, rfl⟩
      have e3 := q3.trans (s1.2.1.trans s2.2.1)
      have e4 := q4.trans (s1.2.2.trans s2.2.2)
      obtain ⟨f3, f4, f5⟩ := both e3 e4 q5
      refine leaves_done (last _ _ a' _ F' B' hq s2.1 ?_ f3 f4 f5)
      intro k
      simp only [tget]
      have hv1 := hval c1 (by simp)
      have hv2 := hval c2 (by simp)
      simp only [if_true] at hv1
      simp only [if_neg (Ne.symm hdc.2.2)] at hv2
      split
      · rename_i hk; subst hk; rw [hv1]; exact .ptrV hB1'
      · split
        · rename_i hk; subst hk; rw [hv2]; exact .ptrV hB2'
        · exact .any _
    | exit id => obtain ⟨ts, m, g1, g2⟩ := he; exact g1.elim
    | goto l => exact he.elim
    | outgrown => exact he.elim
  | ret => obtain ⟨ts, m, g1, g2⟩ := he; exact g1.elim
  | panic ch => obtain ⟨v, m, x, g1, g2⟩ := he; exact g1.elim
  | exit id => obtain ⟨ts, m, g1, g2⟩ := he; exact g1.elim
  | goto l => exact he.elim
  | outgrown => exact he.elim

end
end Go.Proofs.YtjmgnodeohmboaaDoor.Am
