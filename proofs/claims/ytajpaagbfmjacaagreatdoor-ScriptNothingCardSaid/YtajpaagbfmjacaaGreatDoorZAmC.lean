/-
  THE ABSTRACT MACHINE, THIRTEENTH PART: a body goes as the abstract one says. No program is named here.
-/
import Derived.Test.YtajpaagbfmjacaaGreatDoorZAmB
namespace Go.Proofs.YtajpaagbfmjacaaGreatDoor.Am
set_option linter.unusedSimpArgs false
set_option linter.unusedVariables false
open Go
/-- What stays while a body runs: its deferred calls, and the slots that are never written. -/
structure Fr extends Lim where
  ds : List Deferred
  val : Nat → Value

def Held (T : Fr) (a : Act) : Prop := a.defers = T.ds ∧ ∀ k ∈ T.no, a.tmps.getD k undef = T.val k

section
variable {P : Program} {T : Fr} {O F0 F : Nat → Prop} {w0 w w' : World} {B0 B : List Loc} {σ : Nat → AV} {ts : Tm} {mem mem' : List Blk} {a : Act} {o : Oper}

/-- How a run stands to the abstract one. -/
def AbsS (T : Fr) (O F0 : Nat → Prop) (w0 : World) (B0 : List Loc) (σ : Nat → AV) (mem : List Blk) (a : Act) (w : World) : Prop :=
  Held T a ∧ T.n ≤ a.tmps.size ∧ ∃ (F : Nat → Prop) (B : List Loc), MR O F w B mem ∧ TR F w B σ a ∧ Ext F0 F w0 w B0 B ∧ Ev O w0 w ∧ ∀ b, F b → F0 b ∨ O b

def Abs (T : Fr) (O F0 : Nat → Prop) (w0 : World) (B0 : List Loc) (ts : Tm) (mem : List Blk) (a : Act) (w : World) : Prop := AbsS T O F0 w0 B0 (tget ts) mem a w

def AbsP (T : Fr) (O F0 : Nat → Prop) (w0 : World) (B0 : List Loc) (v : AV) (mem : List Blk) (x : Value) (a : Act) (w : World) : Prop :=
  Held T a ∧ ∃ (F : Nat → Prop) (B : List Loc), MR O F w B mem ∧ VR F w B v x ∧ Ext F0 F w0 w B0 B ∧ Ev O w0 w ∧ ∀ b, F b → F0 b ∨ O b

def liftQ (T : Fr) (O F0 : Nat → Prop) (w0 : World) (B0 : List Loc) (Q : Post) : Exit → Act → World → Prop
  | .normal, a, w => ∃ ts m, Q .normal ts m ∧ Abs T O F0 w0 B0 ts m a w
  | .exit id, a, w => ∃ ts m, Q (.exit id) ts m ∧ Abs T O F0 w0 B0 ts m a w
  | .ret, a, w => ∃ ts m, Q .ret ts m ∧ Abs T O F0 w0 B0 ts m a w
  | .panic ch, a, w => ∃ v m x, Q (.pan v) [] m ∧ ch = [{ v := x, recovered := false }] ∧ AbsP T O F0 w0 B0 v m x a w
  | _, _, _ => False

theorem AbsS.weaken {σ' : Nat → AV} (h : AbsS T O F0 w0 B0 σ mem a w) (hw : ∀ n, σ' n = .any ∨ σ' n = σ n) : AbsS T O F0 w0 B0 σ' mem a w := by
  obtain ⟨h1, h2, F, B, h3, h4, h5⟩ := h
  refine ⟨h1, h2, F, B, h3, fun n => ?_, h5⟩
  rcases hw n with e | e
  · rw [e]; exact .any _
  · rw [e]; exact h4 n

theorem Abs.kill (ks : List Nat) (h : Abs T O F0 w0 B0 ts mem a w) : Abs T O F0 w0 B0 (tkill ks ts) mem a w := AbsS.weaken h (tget_tkill ks ts)
theorem Abs.keep (ks : List Nat) (h : Abs T O F0 w0 B0 ts mem a w) : Abs T O F0 w0 B0 (tkeep ks ts) mem a w := AbsS.weaken h (tget_tkeep ts ks)

theorem put_ts {v : AV} {x : Value} (ht : TR F w B σ a) (d : Option Nat) (hd : ∀ k, d = some k → k < a.tmps.size) (hv : VR F w B v x) : TR F w B (upd σ d v) (a.put d x) := by
  cases d with
  | none => exact ht
  | some k =>
    intro n
    simp only [upd, Act.put]
    have hk := hd k rfl
    by_cases h : k = n
    · subst h
      rw [if_pos rfl, Array.getD_eq_getD_getElem?, Array.getElem?_setIfInBounds_self_of_lt hk]
      exact hv
    · rw [if_neg h, Array.getD_eq_getD_getElem?, Array.getElem?_setIfInBounds_ne h, ← Array.getD_eq_getD_getElem?]
      exact ht n

theorem put_defers (d : Option Nat) (x : Value) : (a.put d x).defers = a.defers := by cases d <;> rfl
theorem put_held {d : Option Nat} {x : Value} (hd : ∀ k, d = some k → k ∉ T.no) (h : Held T a) : Held T (a.put d x) := by
  refine ⟨by rw [put_defers]; exact h.1, fun k hk => ?_⟩
  cases d with
  | none => exact h.2 k hk
  | some j =>
    have hne : j ≠ k := fun e => hd j rfl (e ▸ hk)
    simp only [Act.put]
    rw [Array.getD_eq_getD_getElem?, Array.getElem?_setIfInBounds_ne hne, ← Array.getD_eq_getD_getElem?]
    exact h.2 k hk
theorem put_size (d : Option Nat) (x : Value) : (a.put d x).tmps.size = a.tmps.size := by cases d <;> simp [Act.put]

/-- The guard, as the model looks at it. -/
theorem want_ok {F : Nat → Prop} {ops : Array Oper} {ao : AOper} {b : Bool} (hc : compOper P ops o = some ao.plain) (ht : TR F w B σ a) (hw : wantS σ ao.guard = some b) :
    Region.wanted o (yielded ops a.tmps) = b ∧ compOp P o.type o.op = some ao.op ∧ ao.dst = o.dst := by
  unfold compOper at hc
  split at hc
  · cases hc
  · rename_i op hop
    split at hc
    · rename_i hg
      simp only [AOper.plain, Option.some.injEq, AOper.mk.injEq] at hc
      obtain ⟨h1, h2, h3, _⟩ := hc
      rw [← h3] at hw
      simp [wantS] at hw; subst hw
      exact ⟨by simp [Region.wanted, hg], by rw [hop, h2], h1.symm⟩
    · rename_i j bb hg
      cases hd : (ops[j]?).bind (·.dst) with
      | none => simp [hd] at hc
      | some d =>
        simp only [hd, Option.map_some, AOper.plain, Option.some.injEq, AOper.mk.injEq] at hc
        obtain ⟨h1, h2, h3, _⟩ := hc
        rw [← h3] at hw
        simp only [wantS] at hw
        split at hw
        · rename_i t htd
          cases hw
          refine ⟨?_, by rw [hop, h2], h1.symm⟩
          have hv := ht d
          rw [htd] at hv
          have := hv.of_v
          simp only [Region.wanted, hg, yielded, hd, Option.bind_some]
          rw [Array.getD_eq_getD_getElem?] at this
          cases hx : a.tmps[d]? with
          | none => rw [hx] at this; cases this
          | some x => rw [hx] at this; simp only [Option.getD_some] at this; subst this; cases t <;> cases bb <;> rfl
        · rename_i htd
          cases hw
          refine ⟨?_, by rw [hop, h2], h1.symm⟩
          have hv := ht d
          rw [htd] at hv
          have := hv.of_v
          simp only [Region.wanted, hg, yielded, hd, Option.bind_some]
          rw [Array.getD_eq_getD_getElem?] at this
          cases hx : a.tmps[d]? with
          | none => cases bb <;> rfl
          | some x => rw [hx] at this; simp only [Option.getD_some] at this; subst this; cases bb <;> rfl
        · cases hw

/-- One wanted operation. -/
theorem oper_sound {Γ : Env} (hΓ : EnvOk P Γ) (hO : ∀ b, w0.heap.size ≤ b → O b) {ops : Array Oper} {ao : AOper} (hc : compOper P ops o = some ao.plain) (hdst : ∀ d, ao.dst = some d → d < T.n ∧ d ∉ T.no) (ha : AbsS T O F0 w0 B0 σ mem a w)
    {K : Act → World → Prop} {Qe : Exit → Act → World → Prop} {r : Res} (hop : compOp P o.type o.op = some ao.op) (hdo : ao.dst = o.dst) (hs : stepA Γ σ mem ao.op = some (r, mem'))
    (hret : ∀ v, r = .ret v → ∀ a' w', AbsS T O F0 w0 B0 (upd σ ao.dst v) mem' a' w' → K a' w') (hpan : ∀ v, r = .pan v → ∀ w' x, AbsP T O F0 w0 B0 v mem' x a w' → Qe (.panic [{ v := x, recovered := false }]) a w') :
    o.wp P a w K Qe := by
  obtain ⟨hd, hT, F, B, m1, m2, m3, m4, m5⟩ := ha
  have hO' : ∀ b, w.heap.size ≤ b → O b := fun b hb => hO b (Nat.le_trans m4.size hb)
  have hg := step_sound (P := P) Γ hΓ hop hs hO' m1 m2
  have hF5 : ∀ {F' : Nat → Prop}, (∀ b, F' b → F b ∨ O b) → ∀ b, F' b → F0 b ∨ O b := fun k b hb => by
    rcases k b hb with hb | hb
    · exact m5 b hb
    · exact .inr hb
  cases r with
  | ret v =>
    refine hg _ _ (fun x w' F' B' k1 k2 k3 k4 k5 => hret v rfl _ _ ?_)
    refine ⟨put_held (fun k hk => (hdst k (hdo.trans hk)).2) hd, by rw [put_size]; exact hT, F', B', k1, ?_, m3.trans k2, m4.trans k3, hF5 k4⟩
    rw [← hdo]
    exact put_ts (m2.mono k2) _ (fun k hk => Nat.lt_of_lt_of_le (hdst k hk).1 hT) k5
  | pan v =>
    refine hg _ _ (fun x w' F' B' k1 k2 k3 k4 k5 => hpan v rfl _ _ ?_)
    exact ⟨hd, F', B', k1, k5, m3.trans k2, m4.trans k3, hF5 k4⟩

theorem skip_abs {d : Option Nat} (hdst : ∀ k, d = some k → k < T.n ∧ k ∉ T.no) (ha : AbsS T O F0 w0 B0 σ mem a w) : AbsS T O F0 w0 B0 (upd σ d skipV) mem (a.put d undef) w := by
  obtain ⟨hd, hT, F, B, m1, m2, m3, m4, m5⟩ := ha
  exact ⟨put_held (fun k hk => (hdst k hk).2) hd, by rw [put_size]; exact hT, F, B, m1, put_ts m2 _ (fun k hk => Nat.lt_of_lt_of_le (hdst k hk).1 hT) (VR.v undef), m3, m4, m5⟩

theorem mapM_plain {ops : Array Oper} : ∀ (l : List Oper) (al : List AOper), l.mapM (compOper P ops) = some al → ∀ (i : Nat) (o : Oper), l[i]? = some o → ∃ ao, al[i]? = some ao ∧ compOper P ops o = some ao
  | [], al, h, i, o, hi => by simp at hi
  | x :: l, al, h, i, o, hi => by
    simp only [List.mapM_cons] at h
    cases h1 : compOper P ops x with
    | none => simp [h1] at h
    | some ao =>
      cases h2 : l.mapM (compOper P ops) with
      | none => simp [h1, h2] at h
      | some al' =>
        simp [h1, h2] at h; subst h
        cases i with
        | zero => simp at hi; subst hi; exact ⟨ao, rfl, h1⟩
        | succ i => exact mapM_plain l al' h2 i o (by simpa using hi)

theorem mapM_len {ops : Array Oper} : ∀ (l : List Oper) (al : List AOper), l.mapM (compOper P ops) = some al → al.length = l.length
  | [], al, h => by simp at h; subst h; rfl
  | x :: l, al, h => by
    simp only [List.mapM_cons] at h
    cases h1 : compOper P ops x with
    | none => simp [h1] at h
    | some ao =>
      cases h2 : l.mapM (compOper P ops) with
      | none => simp [h1, h2] at h
      | some al' => simp [h1, h2] at h; subst h; simp [mapM_len l al' h2]

theorem dst_of {l : List AOper} (h : dstOk T.toLim l = true) {i : Nat} {ao : AOper} (hi : l[i]? = some ao) : ∀ d, ao.dst = some d → d < T.n ∧ d ∉ T.no := fun d hd => by
  simp only [dstOk, List.all_eq_true] at h
  have := h ao (List.mem_of_getElem? hi)
  simpa [hd] using this

theorem ops_sound {Γ : Env} (hΓ : EnvOk P Γ) (hO : ∀ b, w0.heap.size ≤ b → O b) {Q : Post} {ops : Array Oper} : ∀ (l : List Oper) (al : List AOper) (ts : Tm) (mem : List Blk) (a : Act) (w : World),
    l.mapM (compOper P ops) = some (al.map AOper.plain) → dstOk T.toLim al = true → runW Γ al ts mem Q → Abs T O F0 w0 B0 ts mem a w → wpList P ops (liftQ T O F0 w0 B0 Q) l a w
  | [], al, ts, mem, a, w, hc, hdst, hq, ha => by
    simp at hc; subst hc
    exact ⟨ts, mem, hq, ha⟩
  | o :: l, al, ts, mem, a, w, hc, hdst, hq, ha => by
    simp only [List.mapM_cons] at hc
    cases h1 : compOper P ops o with
    | none => simp [h1] at hc
    | some ao' =>
      cases h2 : l.mapM (compOper P ops) with
      | none => simp [h1, h2] at hc
      | some al' =>
        cases al with
        | nil => simp [h1, h2] at hc
        | cons ao al =>
          simp [h1, h2] at hc
          obtain ⟨e1, e2⟩ := hc
          subst e1; subst e2
          have hd0 : ∀ d, ao.dst = some d → d < T.n ∧ d ∉ T.no := dst_of hdst (i := 0) rfl
          have hdst' : dstOk T.toLim al = true := by simp only [dstOk, List.all_cons, Bool.and_eq_true] at hdst; exact hdst.2
          simp only [runW] at hq
          obtain ⟨t, ht, hy, hn⟩ := gateK_ok hq
          obtain ⟨hd, hT, F, B, m1, m2, m3, m4, m5⟩ := id ha
          obtain ⟨g1, g2, g3⟩ := want_ok h1 m2 ht
          cases t with
          | true =>
            have hq' := hy rfl
            simp only [wpList, g1, if_true]
            left
            unfold stepK at hq'
            cases hs : stepA Γ (tget ts) mem ao.op with
            | none => rw [hs] at hq'; exact hq'.elim
            | some p =>
              obtain ⟨r, m'⟩ := p
              rw [hs] at hq'
              refine oper_sound hΓ hO h1 hd0 ha g2 g3 hs (fun v hr a' w' hab => ?_) (fun v hr w' x hab => ?_)
              · subst hr
                refine ops_sound hΓ hO l al _ m' _ w' h2 hdst' hq' ?_
                refine AbsS.weaken hab (fun n => ?_)
                rw [tget_tput]
                cases hdd : ao.dst with
                | none => exact tget_tkill _ _ n
                | some k =>
                  simp only [upd]
                  split
                  · exact .inr rfl
                  · exact tget_tkill _ _ n
              · subst hr
                exact ⟨v, m', x, hq', rfl, hab⟩
          | false =>
            simp only [wpList, g1, Bool.false_eq_true, if_false]
            refine ops_sound hΓ hO l al _ mem _ w h2 hdst' (hn rfl) ?_
            rw [← g3]
            refine AbsS.weaken (skip_abs hd0 ha) (fun n => ?_)
            rw [tget_tput]
            cases hdd : ao.dst with
            | none => exact tget_tkill _ _ n
            | some k =>
              simp only [upd]
              split
              · exact .inr rfl
              · exact tget_tkill _ _ n

theorem plain_plain (o : AOper) : o.plain.plain = o.plain := rfl

/-- Every order: what is shown abstractly holds. -/
theorem any_sound {Γ : Env} (hΓ : EnvOk P Γ) (hO : ∀ b, w0.heap.size ≤ b → O b) {Q : Post} {ops : Array Oper} {aops : List AOper} (hc : ops.toList.mapM (compOper P ops) = some (aops.map AOper.plain)) (hdst : dstOk T.toLim aops = true) :
    ∀ (n : Nat) (dn : Nat → Bool) (listed : Array Bool) (σ : Nat → AV) (mem : List Blk) (a : Act) (w : World), listed.size = ops.size → (∀ i, listed.getD i false = dn i) →
      anyS Γ (preOf ops.toList) aops (fun v m => Q (.pan v) [] m) (fun σ m => ∃ ts, tget ts = σ ∧ Q .normal ts m) n dn σ mem → AbsS T O F0 w0 B0 σ mem a w → wpAny P .any ops (liftQ T O F0 w0 B0 Q) n listed a w := by
  have hlen : aops.length = ops.size := by have := mapM_len _ _ hc; simpa using this
  have hrdy : ∀ (dn : Nat → Bool) (listed : Array Bool) (i : Nat), listed.size = ops.size → (∀ i, listed.getD i false = dn i) → (i ∈ Region.ready .any ops listed ↔ i < ops.size ∧ isRdy (preOf ops.toList) dn i = true) := by
    intro dn listed i hsz hl
    rw [mem_ready]
    have hpre : (preOf ops.toList)[i]? = (ops[i]?).map fun o => (o.after.toList.filter (Region.binds .any ·)).map (·.on) := by simp [preOf]
    unfold isRdy
    rw [hpre]
    constructor
    · rintro ⟨h0, o, ho, hall⟩
      have hlt := (Array.getElem?_eq_some_iff.1 ho).1
      refine ⟨hlt, ?_⟩
      simp only [ho, Option.map_some, Bool.and_eq_true, Bool.not_eq_true', List.all_eq_true, List.mem_map, List.mem_filter]
      refine ⟨?_, ?_⟩
      · rw [← hl i]
        rw [Array.getD_eq_getD_getElem?] at h0 ⊢
        rw [Array.getElem?_eq_getElem (by omega)] at h0 ⊢
        exact h0
      · rintro x ⟨e, ⟨he, hb⟩, rfl⟩
        rw [← hl]; exact hall e (by simpa using he) hb
    · rintro ⟨hlt, h⟩
      have ho : ops[i]? = some ops[i] := Array.getElem?_eq_getElem hlt
      simp only [ho, Option.map_some, Bool.and_eq_true, Bool.not_eq_true', List.all_eq_true, List.mem_map, List.mem_filter] at h
      refine ⟨?_, ops[i], ho, fun e he hb => ?_⟩
      · have := h.1
        rw [← hl i] at this
        rw [Array.getD_eq_getD_getElem?] at this ⊢
        rw [Array.getElem?_eq_getElem (by omega)] at this ⊢
        exact this
      · rw [hl]; exact h.2 e.on ⟨e, ⟨by simpa using he, hb⟩, rfl⟩
  have hno : ∀ (dn : Nat → Bool) (listed : Array Bool), listed.size = ops.size → (∀ i, listed.getD i false = dn i) → (Region.ready .any ops listed = [] ↔ noRdy (preOf ops.toList) aops.length dn) := by
    intro dn listed hsz hl
    constructor
    · intro h i hi
      cases hr : isRdy (preOf ops.toList) dn i with
      | false => rfl
      | true =>
        have := (hrdy dn listed i hsz hl).2 ⟨by omega, hr⟩
        rw [h] at this; cases this
    · intro h
      apply List.eq_nil_iff_forall_not_mem.2
      intro i hi
      obtain ⟨h1, h2⟩ := (hrdy dn listed i hsz hl).1 hi
      rw [h i (by omega)] at h2; cases h2
  have fin : ∀ (σ : Nat → AV) (m : List Blk) (a : Act) (w : World), (∃ ts, tget ts = σ ∧ Q .normal ts m) → AbsS T O F0 w0 B0 σ m a w → liftQ T O F0 w0 B0 Q .normal a w := by
    rintro σ m a w ⟨ts, rfl, hq⟩ ha
    exact ⟨ts, m, hq, ha⟩
  intro n
  induction n with
  | zero =>
    intro dn listed σ mem a w hsz hl hA ha
    exact ⟨(hno dn listed hsz hl).2 hA.1, fin σ mem a w hA.2 ha⟩
  | succ n ih =>
    intro dn listed σ mem a w hsz hl hA ha
    refine ⟨fun h => fin σ mem a w (hA.1 ((hno dn listed hsz hl).1 h)) ha, fun i hi => ?_⟩
    obtain ⟨hlt, hr⟩ := (hrdy dn listed i hsz hl).1 hi
    have ho : ops[i]? = some ops[i] := Array.getElem?_eq_getElem hlt
    obtain ⟨ao', hao', hcomp⟩ := mapM_plain _ _ hc i ops[i] (by simp [hlt])
    rw [List.getElem?_map] at hao'
    cases hao : aops[i]? with
    | none => simp [hao] at hao'
    | some ao =>
      simp [hao] at hao'
      subst hao'
      have hg := hA.2 i ao hao hr
      have hd0 := dst_of hdst hao
      obtain ⟨hd, hT, F, B, m1, m2, m3, m4, m5⟩ := id ha
      have hsz' : (listed.setIfInBounds i true).size = ops.size := by simpa using hsz
      have hl' : ∀ k, (listed.setIfInBounds i true).getD k false = donAt i dn k := by
        intro k
        simp only [donAt]
        by_cases hki : i = k
        · subst hki
          rw [Array.getD_eq_getD_getElem?, Array.getElem?_setIfInBounds_self_of_lt (by omega)]
          simp
        · rw [Array.getD_eq_getD_getElem?, Array.getElem?_setIfInBounds_ne hki, ← Array.getD_eq_getD_getElem?, hl k]
          simp [Ne.symm hki]
      unfold wpOp
      simp only [ho]
      unfold gStep at hg
      cases hw : wantS σ ao.guard with
      | none => rw [hw] at hg; exact hg.elim
      | some t =>
        obtain ⟨g1, g2, g3⟩ := want_ok hcomp m2 hw
        rw [hw] at hg
        rw [g1]
        cases t with
        | true =>
          simp only [if_true]
          left
          simp only [] at hg
          cases hs : stepA Γ σ mem ao.op with
          | none => rw [hs] at hg; exact hg.elim
          | some p =>
            obtain ⟨r, m'⟩ := p
            rw [hs] at hg
            refine oper_sound hΓ hO hcomp hd0 ha g2 g3 hs (fun v hr a' w' hab => ?_) (fun v hr w' x hab => ?_)
            · subst hr
              exact ih _ _ _ m' a' w' hsz' hl' hg hab
            · subst hr
              exact ⟨v, m', x, hg, rfl, hab⟩
        | false =>
          simp only [Bool.false_eq_true, if_false]
          refine ih _ _ _ mem _ w hsz' hl' hg ?_
          rw [← g3]
          exact skip_abs hd0 ha

/-- A nil slice may be taken for one of the call's own. -/
theorem adopt_sound : ∀ (ad : List (Nat × Nat × Nat)) (ts : Tm) (mem : List Blk) (ts' : Tm) (mem' : List Blk), adoptA ad ts mem = some (ts', mem') → Abs T O F0 w0 B0 ts mem a w → Abs T O F0 w0 B0 ts' mem' a w
  | [], ts, mem, ts', mem', h, ha => by simp [adoptA] at h; obtain ⟨rfl, rfl⟩ := h; exact ha
  | (d, t, sz) :: r, ts, mem, ts', mem', h, ha => by
    simp only [adoptA] at h
    split at h
    · rename_i hd
      split at h
      · rename_i hsz
        refine adopt_sound r _ _ ts' mem' h ?_
        obtain ⟨h1, h2, F, B, m1, m2, m3, m4, m5⟩ := ha
        have hp : MR O F w (B ++ [.arr sz none 0 0]) (mem ++ [.arr t sz []]) := by
          refine m1.push (Nat.le_refl _) (fun _ _ => rfl) ?_ (fun _ b hb => by cases hb)
          exact ⟨rfl, hsz, rfl, (by simp), [], ⟨(by simp), .inl ⟨rfl, rfl⟩⟩, .nil⟩
        refine ⟨h1, h2, F, _, hp, ?_, m3.trans (ext_append F w B _), m4, m5⟩
        intro n
        simp only [tput, tget]
        split
        · rename_i hn
          subst hn
          have hv := m2 d
          rw [hd] at hv
          have := hv.of_v
          rw [this]
          refine VR.osl (sz := sz) (n := 0) (cap := 0) (g := none) ?_
          rw [← m1.len]; simp
        · exact (m2 n).mono (ext_append F w B _)
      · cases h
    · rename_i i hd
      split at h
      · rename_i t' sz' es hi
        refine adopt_sound r _ _ ts' mem' h ?_
        obtain ⟨h1, h2, F, B, m1, m2, m3, m4, m5⟩ := ha
        have hlt := (List.getElem?_eq_some_iff.1 hi).1
        obtain ⟨l, hl⟩ : ∃ l, B[i]? = some l := ⟨_, List.getElem?_eq_getElem (by rw [m1.len]; exact hlt)⟩
        have hbr := m1.br i _ l hi hl
        have hp : MR O F w (B ++ [l]) (mem.set i .gone ++ [.arr t' sz' es]) := by
          refine (m1.forget i).push (Nat.le_refl _) (fun _ _ => rfl) (hbr.mono (ext_append F w B _) (fun _ _ _ => rfl)) (fun _ b hb => ?_)
          have hob := ownB_mk hi hl rfl hb
          obtain ⟨q1, q2, q3⟩ := m1.own i b hob
          refine ⟨fun j hj => ?_, q2, q3, q1⟩
          obtain ⟨g1, g2⟩ := ownB_forget hj
          exact g1 (m1.sep j i b g2 hob)
        refine ⟨h1, h2, F, _, hp, ?_, m3.trans (ext_append F w B _), m4, m5⟩
        intro n
        simp only [tput, tget]
        split
        · rename_i hn
          subst hn
          have hv := m2 d
          rw [hd] at hv
          generalize a.tmps.getD d undef = x at hv
          cases hv with
          | omap hb =>
            rw [hl] at hb
            cases l with
            | map b => exact hbr.elim
            | wrr _ _ _ _ _ => exact hbr.elim
            | _ => cases hb
          | oslW hb =>
            rw [hl] at hb
            cases l with
            | wrr sz b off n cap => exact hbr.elim
            | _ => cases hb
          | @osl _ _ sz n cap g hb =>
            rw [hl] at hb
            have hb' := Option.some.inj hb
            refine VR.osl (sz := sz) (n := n) (cap := cap) (g := g) ?_
            rw [← m1.len, ← hb']; simp
        · exact (m2 n).mono (ext_append F w B _)
      · cases h
    · cases h

/-- A variable that nobody writes any more. -/
theorem MR.sealV {id b : Nat} {cs : List AV} (h : MR O F w B mem) (hi : mem[id]? = some (.var cs)) (hl : B[id]? = some (.var b)) :
    MR O (fun c => F c ∨ c = b) w B (mem.set id .gone) := by
  have hown := ownB_mk hi hl rfl rfl
  obtain ⟨q1, q2, q3⟩ := h.own id b hown
  have hf := h.forget id
  refine ⟨hf.len, fun i k l h1 h2 => (hf.br i k l h1 h2).mono ⟨fun _ h => .inl h, fun _ _ h => h, fun _ _ => rfl⟩ (fun _ _ _ => rfl), hf.sep, fun i c hc => ?_, fun c hc => ?_, hf.gl.same fun _ h => .inl h⟩
  · obtain ⟨g1, g2, g3⟩ := hf.own i c hc
    refine ⟨g1, fun hh => ?_, g3⟩
    rcases hh with hh | rfl
    · exact g2 hh
    · obtain ⟨e1, e2⟩ := ownB_forget hc
      exact e1 (h.sep i id _ e2 hown)
  · rcases hc with hc | rfl
    · exact h.fr c hc
    · exact q3

theorem freezeIds_var {id : Nat} {cs : List AV} : ∀ (ids : List Nat) {m : List Blk}, m[id]? = some (.var cs) → (freezeIds ids m)[id]? = some (.var cs)
  | [], _, h => h
  | i :: ids, m, h => by
    refine freezeIds_var ids ?_
    rw [List.getElem?_modify]
    split <;> rw [h] <;> rfl
theorem seal_sound {d : Nat} {ts' : Tm} (h : sealA d ts mem = some (ts', mem')) (ha : Abs T O F0 w0 B0 ts mem a w) : Abs T O F0 w0 B0 ts' mem' a w := by
  obtain ⟨h1, h2, F, B, m1, m2, m3, m4, m5⟩ := ha
  have put : ∀ {G : Nat → Prop} {v : AV}, (∀ b, F b → G b) → VR G w B v (a.tmps.getD d undef) → TR G w B (tget (tput (tkill [d] ts) (some d) v)) a := by
    intro G v hG hv n
    rw [tget_tput]
    simp only [upd]
    split
    · rename_i hn; subst hn; exact hv
    · rcases tget_tkill [d] ts n with e | e
      · rw [e]; exact .any _
      · rw [e]; exact up hG (m2 n)
  unfold sealA at h
  split at h
  · rename_i id hd
    split at h
    · rename_i cs hi
      split at h
      · rename_i hb
        cases h
        have hv := m2 d
        rw [hd] at hv
        have hlt := (List.getElem?_eq_some_iff.1 hi).1
        obtain ⟨l, hl⟩ : ∃ l, B[id]? = some l := ⟨_, List.getElem?_eq_getElem (by rw [m1.len]; exact hlt)⟩
        have hbr := m1.br id _ l hi hl
        cases l with
        | arr sz g n cap => exact hbr.elim
        | map b => exact hbr.elim
        | wrr _ _ _ _ _ => exact hbr.elim
        | var b =>
          obtain ⟨t, xs, hh, hc⟩ := hbr
          obtain ⟨q1, q2, q3⟩ := m1.own id b (ownB_mk hi hl rfl rfl)
          have e : Ext F (fun c => F c ∨ c = b) w w B B := ⟨fun _ h => .inl h, fun _ _ h => h, fun _ _ => rfl⟩
          refine ⟨h1, h2, _, B, m1.sealV hi hl, put (fun _ h => .inl h) ?_, m3.trans e, m4, fun c hc => ?_⟩
          · generalize a.tmps.getD d undef = x at hv
            cases hv with
            | @ptrV _ _ b' _ hb' =>
              rw [hl] at hb'; cases hb'
              have := VR.fptr (F := fun c => F c ∨ c = b) (w := w) (B := B) (e := .agg cs) b 0 0 ((hc.toBare hb).mono e.bare) (.inr rfl) (fun j y hj => ?_)
              · exact this
              · simp only [World.cell?, hh]
                simpa using hj
            | ptrA hb' => rw [hl] at hb'; cases hb'
            | ptrW hb' => rw [hl] at hb'; cases hb'
          · rcases hc with hc | rfl
            · exact m5 c hc
            · exact .inr q1
      · split at h
        · rename_i hb
          cases h
          have hv := m2 d
          rw [hd] at hv
          have hlt := (List.getElem?_eq_some_iff.1 hi).1
          obtain ⟨l, hl⟩ : ∃ l, B[id]? = some l := ⟨_, List.getElem?_eq_getElem (by rw [m1.len]; exact hlt)⟩
          have hbr := m1.br id _ l hi hl
          cases l with
          | arr sz g n cap => exact hbr.elim
          | map b => exact hbr.elim
          | wrr _ _ _ _ _ => exact hbr.elim
          | var b =>
            obtain ⟨t, xs, hh, hc⟩ := hbr
            obtain ⟨G, g1, g2, g3, g4⟩ := MR.freezes (AV.slicesAll cs) m1
            have hc' : CR G w B (AV.kfzAll mem cs) xs := kfzAll_ok m1 g2 cs xs hc g4
            have hi' := freezeIds_var (AV.slicesAll cs) hi
            obtain ⟨q1, q2, q3⟩ := g1.own id b (ownB_mk hi' hl rfl rfl)
            have e0 : Ext F G w w B B := ⟨g2, fun _ _ h => h, fun _ _ => rfl⟩
            have e : Ext G (fun c => G c ∨ c = b) w w B B := ⟨fun _ h => .inl h, fun _ _ h => h, fun _ _ => rfl⟩
            refine ⟨h1, h2, _, B, g1.sealV hi' hl, put (fun _ h => .inl (g2 _ h)) ?_, (m3.trans e0).trans e, m4, fun c hc => ?_⟩
            · generalize a.tmps.getD d undef = x at hv
              cases hv with
              | @ptrV _ _ b' _ hb' =>
                rw [hl] at hb'; cases hb'
                have := VR.fptr (F := fun c => G c ∨ c = b) (w := w) (B := B) (e := .agg (AV.kfzAll mem cs)) b 0 0 ((hc'.toBare hb).mono e.bare) (.inr rfl) (fun j y hj => ?_)
                · exact this
                · simp only [World.cell?, hh]
                  simpa using hj
              | ptrA hb' => rw [hl] at hb'; cases hb'
              | ptrW hb' => rw [hl] at hb'; cases hb'
            · rcases hc with hc | rfl
              · rcases g3 c hc with hc | hc
                · exact m5 c hc
                · exact .inr hc
              · exact .inr q1
        · cases h
    · cases h
  · rename_i v hno
    simp only [Option.some.injEq, Prod.mk.injEq] at h
    obtain ⟨rfl, rfl⟩ := h
    obtain ⟨G, g1, g2, g3, g4⟩ := MR.freezes (tget ts d).slices m1
    have e : Ext F G w w B B := ⟨g2, fun _ _ h => h, fun _ _ => rfl⟩
    refine ⟨h1, h2, G, B, g1, put g2 (kfz_ok m1 g2 _ _ (m2 d) g4), m3.trans e, m4, fun c hc => ?_⟩
    rcases g3 c hc with hc | hc
    · exact m5 c hc
    · exact .inr hc

theorem put_abs {F G : Nat → Prop} {B B' : List Loc} {d : Nat} {v : AV} (m2 : TR F w B (tget ts) a) (e : Ext F G w w B B') (hv : VR G w B' v (a.tmps.getD d undef)) : TR G w B' (tget (tput (tkill [d] ts) (some d) v)) a := by
  intro n
  rw [tget_tput]
  simp only [upd]
  split
  · rename_i hn; subst hn; exact hv
  · rcases tget_tkill [d] ts n with e1 | e1
    · rw [e1]; exact .any _
    · rw [e1]; exact (m2 n).mono e

theorem anys_ok : ∀ (xs : List Value), CR F w B (List.replicate xs.length .any) xs
  | [] => .nil
  | x :: xs => by rw [List.length_cons, List.replicate_succ]; exact .cons (.any x) (anys_ok xs)
theorem cellsAll_any (sz : Nat) : ∀ k, AV.cellsAll (List.replicate k (.agg (List.replicate sz .any))) = List.replicate (k * sz) .any
  | 0 => by simp [AV.cellsAll]
  | k + 1 => by
    rw [List.replicate_succ, AV.cellsAll, cellsAll_any sz k, Nat.add_mul, Nat.one_mul, Nat.add_comm (k * sz) sz]
    simp [List.replicate_append_replicate]

theorem open_sound {d : Nat} {K : Tm → List Blk → Prop} (h : openA d ts mem K) (ha : Abs T O F0 w0 B0 ts mem a w) : ∃ ts' m', K ts' m' ∧ Abs T O F0 w0 B0 ts' m' a w := by
  unfold openA at h
  split at h
  · rename_i id hd
    split at h
    · rename_i t sz es hi
      obtain ⟨h1, h2, F, B, m1, m2, m3, m4, m5⟩ := ha
      have hv := m2 d
      rw [hd] at hv
      have hlt := (List.getElem?_eq_some_iff.1 hi).1
      obtain ⟨l, hl⟩ : ∃ l, B[id]? = some l := ⟨_, List.getElem?_eq_getElem (by rw [m1.len]; exact hlt)⟩
      have hbr := m1.br id _ l hi hl
      match l, hbr, hl with
      | .arr sz' g n cap, ⟨q1, q2, q3, q4, xs, q5, q6⟩, hl =>
        subst q1; subst q3
        generalize hy : a.tmps.getD d undef = y at hv
        cases hv with
        | omap hb => rw [hl] at hb; cases hb
        | oslW hb => rw [hl] at hb; cases hb
        | osl hb =>
          rw [hl] at hb; cases hb
          rcases q5.2 with ⟨r1, r2⟩ | ⟨g', cap', cur, r1, _, r3, r4, r5, r6, r7⟩
          · have hnil : es = [] := List.eq_nil_of_length_eq_zero r2
            refine ⟨_, _, h.2 hnil, h1, h2, F, B, m1.forget id, put_abs m2 (.refl F w B) ?_, m3, m4, m5⟩
            rw [hy, r1]; exact .v _
          · have hg : g = some g' ∧ cap = cap' := by
              cases g with
              | none => simp [head] at r1
              | some g => simp [head] at r1; exact ⟨by rw [r1.1], r1.2⟩
            obtain ⟨rfl, rfl⟩ := hg
            have hk := h.1 (cap - es.length) (by omega)
            have hcl : (AV.cellsAll (es ++ List.replicate (cap - es.length) (AV.agg (List.replicate sz .any)))).length = cap * sz := by
              rw [AV.cellsAll_append, List.length_append, AV.cellsAll_length q4, cellsAll_any, List.length_replicate, ← Nat.add_mul]
              congr 1; omega
            have hcur : cur.toList = xs ++ cur.toList.drop (es.length * sz) := by rw [← r7, List.take_append_drop]
            have hdl : (cur.toList.drop (es.length * sz)).length = (cap - es.length) * sz := by
              rw [List.length_drop, Array.length_toList, r6, Nat.sub_mul]
            obtain ⟨w1, w2⟩ := m1.write (w' := w) (k := .buf t sz (es ++ List.replicate (cap - es.length) (.agg (List.replicate sz .any)))) hi hl rfl rfl rfl (fun _ _ => rfl) (fun e => by
              refine ⟨rfl, q2, by simp; omega, r5, fun x hx => ?_, g', cur.toList, rfl, by simpa using r3, ?_⟩
              · rcases List.mem_append.1 hx with hx | hx
                · exact q4 x hx
                · rw [List.eq_of_mem_replicate hx]; simp
              · rw [AV.cellsAll_append, hcur, cellsAll_any, ← hdl]
                exact q6.append (anys_ok _))
            refine ⟨_, _, hk, h1, h2, F, B, w1, put_abs m2 (.refl F w B) ?_, m3, m4, m5⟩
            rw [hy]
            exact VR.win (off := 0) (p := 0) hl (by simpa using r4) (fun _ => by simp)
    · cases h
  · exact ⟨_, _, h, ha⟩
  · cases h

theorem close_sound {d : Nat} {ts' : Tm} (h : closeA d ts mem = some (ts', mem')) (ha : Abs T O F0 w0 B0 ts mem a w) : Abs T O F0 w0 B0 ts' mem' a w := by
  unfold closeA at h
  split at h
  · rename_i id n hd
    split at h
    · rename_i t sz es hi
      split at h
      · rename_i hn
        cases h
        obtain ⟨h1, h2, F, B, m1, m2, m3, m4, m5⟩ := ha
        have hv := m2 d
        rw [hd] at hv
        obtain ⟨g, p, N, xs, ey, q1, q2, q3, q4, q5, q6, q7, q8, q9⟩ := win_inv hi m1 hv
        have hp0 : p = 0 := by have := q2 (.inr rfl); simpa using this
        subst hp0
        obtain ⟨o1, o2, o3⟩ := m1.own id g (ownB_mk hi q9 rfl rfl)
        have hp : MR O F w (B ++ [.arr sz (some g) n es.length]) (mem.set id .gone ++ [.arr t sz (es.take n)]) := by
          refine (m1.forget id).push (Nat.le_refl _) (fun _ _ => rfl) ?_ (fun _ b hb => ?_)
          · refine ⟨rfl, q3, by rw [List.length_take]; omega, fun e he => q5 e (List.mem_of_mem_take he), xs.take (n * sz), ⟨?_, .inr ⟨g, es.length, xs.toArray, rfl, Nat.zero_le _, q6, hn, q4, by simpa using q8, rfl⟩⟩, ?_⟩
            · rw [List.length_take, q8]
              exact Nat.min_eq_left (Nat.mul_le_mul_right _ hn)
            · rw [cellsAll_take _ _ q5]; exact q7.take _
          · cases hb
            refine ⟨fun j hj => ?_, o2, o3, o1⟩
            obtain ⟨g1, g2⟩ := ownB_forget hj
            exact g1 (m1.sep j id _ g2 (ownB_mk hi q9 rfl rfl))
        refine ⟨h1, h2, F, _, hp, put_abs m2 (ext_append F w B _) ?_, m3.trans (ext_append F w B _), m4, m5⟩
        rw [ey]
        exact VR.osl (sz := sz) (n := n) (cap := es.length) (g := some g) (by rw [← m1.len]; simp)
      · cases h
    · cases h
  · cases h; exact ha
  · cases h

theorem conc_sound {d : Nat} {K : Tm → Prop} (h : concA d ts K) (ha : Abs T O F0 w0 B0 ts mem a w) : ∃ ts', K ts' ∧ Abs T O F0 w0 B0 ts' mem a w := by
  unfold concA at h
  split at h
  · rename_i sz hd
    obtain ⟨h1, h2, F, B, m1, m2, m3, m4, m5⟩ := ha
    have hv := m2 d
    rw [hd] at hv
    obtain ⟨base, cap, ey, _⟩ := fsl_inv hv
    refine ⟨_, h base cap, h1, h2, F, B, m1, put_abs m2 (.refl F w B) ?_, m3, m4, m5⟩
    rw [ey]; exact .v _
  · exact ⟨_, h, ha⟩

theorem into_sound {N : Nat} {keep : List Nat} {J : Tm → List Blk → Prop} (hN : B0.length = N) (h : into N keep J ts mem) (ha : Abs T O F0 w0 B0 ts mem a w) : ∃ ts' m', J ts' m' ∧ Abs T O F0 w0 B0 ts' m' a w := by
  obtain ⟨ad, ids, h⟩ := h
  cases had : adoptA ad ts mem with
  | none => rw [had] at h; exact h.elim
  | some p =>
    obtain ⟨ts1, mem1⟩ := p
    rw [had] at h
    obtain ⟨hsub, hpin, hJ⟩ := h
    have ha1 := (adopt_sound ad ts mem ts1 mem1 had ha).keep keep
    refine ⟨_, _, hJ, ?_⟩
    obtain ⟨h1, h2, F, B, m1, m2, m3, m4, m5⟩ := ha1
    obtain ⟨q1, q2, q3, q4⟩ := subOk_spec hsub
    refine ⟨h1, h2, F, subB ids B, m1.sub hsub (fun i _ b hb => (m1.own i b hb).1), fun n => ?_, ⟨m3.fr, fun i l hl => ?_, m3.hp⟩, m4, m5⟩
    · rw [tget_tmap]
      exact mapId_ok _ _ (m2 n) (fun i hi l hl => subB_idx (q3 i (tids_get _ n i hi)) hl)
    · have hi : i < N := by rw [← hN]; exact (List.getElem?_eq_some_iff.1 hl).1
      have hidi : ids[i]? = some i := by
        have := congrArg (·[i]?) hpin
        simp only [List.getElem?_take, hi, if_true] at this
        rw [this]; simp [hi]
      have := m3.pl i l hl
      simp [subB, hidi, List.getD_eq_getElem?_getD, this]

theorem liftQ_then {next : Tm → List Blk → Prop} {Q : Post} {K : Act → World → Prop} (hK : ∀ a w ts m, next ts m → Abs T O F0 w0 B0 ts m a w → K a w) :
    ∀ e a w, liftQ T O F0 w0 B0 (AExit.thenA next Q) e a w → Exit.then K (liftQ T O F0 w0 B0 Q) e a w := by
  intro e a w h
  cases e with
  | normal => obtain ⟨ts, m, h1, h2⟩ := h; exact hK a w ts m h1 h2
  | _ => exact h

theorem pairs_eq : ∀ {l : List (AOper × AOper)}, l.map Prod.fst = l.map Prod.snd → ∀ p ∈ l, p.1 = p.2
  | [], _, p, hp => by cases hp
  | q :: l, h, p, hp => by
    simp only [List.map_cons, List.cons.injEq] at h
    cases hp with
    | head => exact h.1
    | tail _ hp => exact pairs_eq h.2 p hp

theorem inv_skip {c : Code} (h : compCode P c = some .skip) : c = .skip := by
  cases c <;> simp only [compCode] at h <;> first | rfl | (split at h <;> simp at h; done) | (simp at h; done)
theorem inv_region {c : Code} {d : Bool} {p : List (List Nat)} {l : List AOper} (h : compCode P c = some (.region d p l)) : ∃ id ops, c = .region id ops d ∧ ops.toList.mapM (compOper P ops) = some l ∧ p = if d then preOf ops.toList else [] := by
  cases c with
  | region id ops draw =>
    simp only [compCode, Option.map_eq_some_iff, ACode.region.injEq] at h
    obtain ⟨l', h1, h2, h3, h4⟩ := h
    subst h2; subst h4
    exact ⟨id, ops, rfl, h1, h3.symm⟩
  | _ => simp only [compCode] at h; first | (split at h <;> simp at h; done) | (simp at h; done)
theorem inv_seq {c : Code} {x y : ACode} (h : compCode P c = some (.seq x y)) : ∃ a b, c = .seq a b ∧ compCode P a = some x ∧ compCode P b = some y := by
  cases c with
  | seq a b =>
    simp only [compCode] at h
    split at h
    · rename_i x' y' h1 h2
      simp only [Option.some.injEq, ACode.seq.injEq] at h
      obtain ⟨rfl, rfl⟩ := h
      exact ⟨a, b, rfl, h1, h2⟩
    · cases h
  | _ => simp only [compCode] at h; first | (split at h <;> simp at h; done) | (simp at h; done)
theorem inv_cond {c : Code} {q : AOpd} {x y : ACode} (h : compCode P c = some (.cond q x y)) : ∃ z a b, c = .cond z a b ∧ q = compOpd z ∧ compCode P a = some x ∧ compCode P b = some y := by
  cases c with
  | cond z a b =>
    simp only [compCode] at h
    split at h
    · rename_i x' y' h1 h2
      simp only [Option.some.injEq, ACode.cond.injEq] at h
      obtain ⟨rfl, rfl, rfl⟩ := h
      exact ⟨z, a, b, rfl, rfl, h1, h2⟩
    · cases h
  | _ => simp only [compCode] at h; first | (split at h <;> simp at h; done) | (simp at h; done)
theorem inv_block {c : Code} {id : Nat} {x : ACode} (h : compCode P c = some (.block id x)) : ∃ a, c = .block id a ∧ compCode P a = some x := by
  cases c with
  | block i a =>
    simp only [compCode, Option.map_eq_some_iff, ACode.block.injEq] at h
    obtain ⟨x', h1, h2, h3⟩ := h
    subst h2; subst h3
    exact ⟨a, rfl, h1⟩
  | _ => simp only [compCode] at h; first | (split at h <;> simp at h; done) | (simp at h; done)
theorem inv_loop {c : Code} {k : List Nat} {x : ACode} (h : compCode P c = some (.loop k x)) : ∃ a, c = .loop a ∧ compCode P a = some x := by
  cases c with
  | loop a =>
    simp only [compCode, Option.map_eq_some_iff, ACode.loop.injEq] at h
    obtain ⟨x', h1, h2, h3⟩ := h
    subst h3
    exact ⟨a, rfl, h1⟩
  | _ => simp only [compCode] at h; first | (split at h <;> simp at h; done) | (simp at h; done)
theorem inv_exit {c : Code} {id : Nat} (h : compCode P c = some (.exit id)) : c = .exit id := by
  cases c with
  | exit i => simp only [compCode, Option.some.injEq, ACode.exit.injEq] at h; rw [h]
  | _ => simp only [compCode] at h; first | (split at h <;> simp at h; done) | (simp at h; done)
theorem inv_ret {c : Code} (h : compCode P c = some .ret) : c = .ret := by
  cases c <;> simp only [compCode] at h <;> first | rfl | (split at h <;> simp at h; done) | (simp at h; done)

/-- A BODY GOES AS THE ABSTRACT ONE SAYS. -/
theorem code_sound {Γ : Env} {N : Nat} (hΓ : EnvOk P Γ) (hmix : P.follows .mixedOrders = true) (hN : B0.length = N) (hO : ∀ b, w0.heap.size ≤ b → O b) : ∀ (ac : ACode) (c : Code) (Q : Post) (ts : Tm) (mem : List Blk) (a : Act) (w : World),
    compCode P c = some ac.plain → ac.chk T.toLim = true → (∀ p ∈ ac.pairs, p.1 = p.2) → wpA Γ N ac Q ts mem → Abs T O F0 w0 B0 ts mem a w → c.wp P (liftQ T O F0 w0 B0 Q) a w
  | .drop ks x, c, Q, ts, mem, a, w, hc, hk, hp, hq, ha => code_sound hΓ hmix hN hO x c Q _ mem a w hc hk hp hq (ha.kill ks)
  | .pack ks x, c, Q, ts, mem, a, w, hc, hk, hp, hq, ha => by
    obtain ⟨ts', m', h1, h2⟩ := into_sound hN hq ha
    exact code_sound hΓ hmix hN hO x c Q ts' m' a w hc hk hp h1 h2
  | .seal_ d x, c, Q, ts, mem, a, w, hc, hk, hp, hq, ha => by
    simp only [wpA] at hq
    cases hs : sealA d ts mem with
    | none => rw [hs] at hq; exact hq.elim
    | some p =>
      obtain ⟨ts', m'⟩ := p
      rw [hs] at hq
      exact code_sound hΓ hmix hN hO x c Q ts' m' a w hc hk hp hq (seal_sound hs ha)
  | .open_ d x, c, Q, ts, mem, a, w, hc, hk, hp, hq, ha => by
    obtain ⟨ts', m', h1, h2⟩ := open_sound hq ha
    exact code_sound hΓ hmix hN hO x c Q ts' m' a w hc hk hp h1 h2
  | .close_ d x, c, Q, ts, mem, a, w, hc, hk, hp, hq, ha => by
    simp only [wpA] at hq
    cases hs : closeA d ts mem with
    | none => rw [hs] at hq; exact hq.elim
    | some p =>
      obtain ⟨ts', m'⟩ := p
      rw [hs] at hq
      exact code_sound hΓ hmix hN hO x c Q ts' m' a w hc hk hp hq (close_sound hs ha)
  | .conc d x, c, Q, ts, mem, a, w, hc, hk, hp, hq, ha => by
    obtain ⟨ts', h1, h2⟩ := conc_sound hq ha
    exact code_sound hΓ hmix hN hO x c Q ts' mem a w hc hk hp h1 h2
  | .skip, c, Q, ts, mem, a, w, hc, hk, hp, hq, ha => by
    have := inv_skip hc; subst this
    exact wp_skip ⟨ts, mem, hq, ha⟩
  | .region d p ops, c, Q, ts, mem, a, w, hc, hk, hp, hq, ha => by
    obtain ⟨id, os, rfl, h1, _⟩ := inv_region hc
    cases d with
    | true => exact hq.elim
    | false => exact wp_region_list (ops_sound hΓ hO os.toList ops ts mem a w h1 hk hq ha)
  | .draws p pre aops, c, Q, ts, mem, a, w, hc, hk, hp, hq, ha => by
    obtain ⟨id, os, rfl, h1, h2⟩ := inv_region hc
    simp only [if_true] at h2
    subst h2
    simp only [ACode.chk, Bool.and_eq_true] at hk
    obtain ⟨⟨hd, hcov⟩, hpl⟩ := hk
    have hany := (plan_any (Γ := Γ) (pre := preOf os.toList) (ops := aops) (Qp := fun v m => Q (.pan v) [] m) (Qn := fun σ m => ∃ ts, tget ts = σ ∧ Q .normal ts m) (Q := Q) (fun ts m h => ⟨ts, rfl, h⟩) (fun _ _ h => h) p aops.length (fun _ => false) ts mem hp hpl hq).1 hcov
    have hlen : aops.length = os.size := by have := mapM_len _ _ h1; simpa using this
    rw [hlen] at hany
    refine wp_region_any hmix (any_sound hΓ hO h1 hd os.size _ _ _ mem a _ (by simp) (fun i => ?_) hany ?_)
    · rw [Array.getD_eq_getD_getElem?, Array.getElem?_replicate]; split <;> rfl
    · obtain ⟨q1, q2, F, B, m1, m2, m3, m4, m5⟩ := ha
      have e : Ext F F w { w with drawn := w.drawn + 1 } B B := ⟨fun _ h => h, fun _ _ h => h, fun _ _ => rfl⟩
      exact ⟨q1, q2, F, B, m1.go (Nat.le_refl _) (fun _ _ => rfl), m2.mono e, m3.trans e, m4.trans ⟨rfl, rfl, rfl, Nat.le_refl _, fun _ _ _ => rfl⟩, m5⟩
  | .seq ax ay, c, Q, ts, mem, a, w, hc, hk, hp, hq, ha => by
    obtain ⟨x, y, rfl, h1, h2⟩ := inv_seq hc
    simp only [ACode.chk, Bool.and_eq_true] at hk
    simp only [ACode.pairs, List.mem_append] at hp
    refine wp_seq (wp_mono (code_sound hΓ hmix hN hO ax x _ ts mem a w h1 hk.1 (fun p h => hp p (.inl h)) hq ha) (liftQ_then fun a' w' ts' m' g1 g2 => ?_))
    exact code_sound hΓ hmix hN hO ay y Q ts' m' a' w' h2 hk.2 (fun p h => hp p (.inr h)) g1 g2
  | .cond cc ax ay, c, Q, ts, mem, a, w, hc, hk, hp, hq, ha => by
    obtain ⟨z, x, y, rfl, hz, h1, h2⟩ := inv_cond hc
    simp only [ACode.chk, Bool.and_eq_true] at hk
    simp only [ACode.pairs, List.mem_append] at hp
    simp only [wpA] at hq
    obtain ⟨_, _, F, B, _, m2, _⟩ := id ha
    have hv := opd_ok m2 z
    have key : ∀ t, (compOpd z).ev (tget ts) = .v (.bool t) → (t = true → wpA Γ N ax Q ts mem) → (t = false → wpA Γ N ay Q ts mem) → (Code.cond z x y).wp P (liftQ T O F0 w0 B0 Q) a w := by
      intro t hct g1 g2
      rw [hct] at hv
      exact wp_cond_split hv.of_v (fun ht => code_sound hΓ hmix hN hO ax x Q ts mem a w h1 hk.1 (fun p h => hp p (.inl h)) (g1 ht) ha) (fun ht => code_sound hΓ hmix hN hO ay y Q ts mem a w h2 hk.2 (fun p h => hp p (.inr h)) (g2 ht) ha)
    rw [← hz] at key
    clear hv hz
    unfold condK at hq
    split at hq
    · rename_i d
      obtain ⟨u, hu, g1, g2⟩ := guardK_ok (yes := fun ts => wpA Γ N ax Q ts mem) (no := fun ts => wpA Γ N ay Q ts mem) hq
      simp only [beq_true] at g1 g2
      exact key u hu g1 g2
    · rename_i t
      exact key t rfl hq.1 hq.2
    · exact hq.elim
  | .block id x, c, Q, ts, mem, a, w, hc, hk, hp, hq, ha => by
    obtain ⟨b, rfl, h1⟩ := inv_block hc
    refine wp_block (wp_mono (code_sound hΓ hmix hN hO x b _ ts mem a w h1 hk hp hq ha) ?_)
    intro e a' w' he
    cases e with
    | exit j =>
      obtain ⟨ts', m', h1, h2⟩ := he
      simp only [Exit.inBlock]
      simp only [AExit.inBlk] at h1
      split
      · rename_i hj; rw [if_pos hj] at h1; exact ⟨ts', m', h1, h2⟩
      · rename_i hj; rw [if_neg hj] at h1; exact ⟨ts', m', h1, h2⟩
    | _ => exact he
  | .loop keep x, c, Q, ts, mem, a, w, hc, hk, hp, hq, ha => by
    obtain ⟨b, rfl, h1⟩ := inv_loop hc
    obtain ⟨I, n, h0, hround⟩ := hq
    obtain ⟨ts0, m0, g1, g2⟩ := into_sound hN h0 ha
    refine wp_loop_ghost (fun n a w => ∃ ts m, I n ts m ∧ Abs T O F0 w0 B0 ts m a w) n ⟨ts0, m0, g1, g2⟩ ?_
    intro n' a' w' hI
    obtain ⟨ts', m', g3, g4⟩ := hI
    refine wp_mono (code_sound hΓ hmix hN hO x b _ ts' m' a' w' h1 hk hp (hround n' ts' m' g3) g4) (liftQ_then fun a2 w2 ts2 m2 h3 h4 => ?_)
    obtain ⟨k, hk', hI⟩ := h3
    obtain ⟨ts3, m3, g5, g6⟩ := into_sound hN hI h4
    exact ⟨k, hk', ts3, m3, g5, g6⟩
  | .exit id, c, Q, ts, mem, a, w, hc, hk, hp, hq, ha => by
    have := inv_exit hc; subst this
    exact wp_exit ⟨ts, mem, hq, ha⟩
  | .ret, c, Q, ts, mem, a, w, hc, hk, hp, hq, ha => by
    have := inv_ret hc; subst this
    exact wp_ret ⟨ts, mem, hq, ha⟩

end
end Go.Proofs.YtajpaagbfmjacaaGreatDoor.Am
