/-
  THOSE THAT ARE DONE WITHOUT A GAP GO.
-/
import Derived.Test.YtkbgndebfcjojaaZT5
import Derived.Test.YtkbgndebfcjojaaZT6
import Derived.Test.YtkbgndebfcjojaaZSBOp
namespace Go.Proofs.Ytkbgndebfcjojaa.Am
set_option linter.unusedSimpArgs false
set_option linter.unusedVariables false
open Go Go.Proofs
attribute [local irreducible] wpA
attribute [-simp] splice

/-! ### Lists in order -/
def findK (t : Int) (l : List Op) : Option Op := l.find? fun x => keyOp x == t
def delK (t : Int) (l : List Op) : List Op := l.filter fun x => !(keyOp x == t)
theorem split_at {α : Type} {l : List α} {i : Nat} {x : α} (h : l[i]? = some x) : l = l.take i ++ x :: l.drop (i + 1) := by
  obtain ⟨hl, rfl⟩ := List.getElem?_eq_some_iff.1 h
  rw [← List.drop_eq_getElem_cons hl, List.take_append_drop]
theorem is_at {t : Int} {l : List Op} (hs : SortK keyOp l) (h : isK' keyOp t l = true) : ∃ o, l[posK keyOp t l]? = some o ∧ keyOp o = t := by
  have := isK_at (t := t) hs
  rw [h] at this
  cases e : l[posK keyOp t l]? with
  | none => rw [e] at this; cases this
  | some o => rw [e] at this; exact ⟨o, rfl, by simpa using this.symm⟩
theorem mem_take_lt {t : Int} {l : List Op} {x : Op} (h : x ∈ l.take (posK keyOp t l)) : keyOp x < t := by
  obtain ⟨k, hk⟩ := List.mem_iff_getElem?.1 h
  rw [List.getElem?_take] at hk
  split at hk
  · exact posK_lt ‹_› hk
  · cases hk
theorem find_at {t : Int} {l : List Op} {o : Op} (hs : SortK keyOp l) (h : l[posK keyOp t l]? = some o) (hk : keyOp o = t) : findK t l = some o := by
  refine List.find?_eq_some_iff_append.2 ⟨by simp [hk], _, _, split_at h, fun a ha => ?_⟩
  have := mem_take_lt ha
  simp; omega
theorem find_no {t : Int} {l : List Op} (h : isK' keyOp t l = false) : findK t l = none := by
  refine List.find?_eq_none.2 fun x hx => ?_
  simpa using isK_false.1 h x hx
theorem find_some {t : Int} {l : List Op} {o : Op} (h : findK t l = some o) : o ∈ l ∧ keyOp o = t := ⟨List.mem_of_find?_eq_some h, by simpa using List.find?_some h⟩
theorem del_at {t : Int} {l : List Op} {o : Op} (hs : SortK keyOp l) (h : l[posK keyOp t l]? = some o) (hk : keyOp o = t) : delK t l = l.take (posK keyOp t l) ++ l.drop (posK keyOp t l + 1) := by
  have e := split_at h
  have hs2 : SortK keyOp (l.take (posK keyOp t l) ++ o :: l.drop (posK keyOp t l + 1)) := e ▸ hs
  obtain ⟨_, h3, _⟩ := List.pairwise_append.1 hs2
  obtain ⟨h4, _⟩ := List.pairwise_cons.1 h3
  have f1 : (l.take (posK keyOp t l)).filter (fun x => !(keyOp x == t)) = l.take (posK keyOp t l) := List.filter_eq_self.2 fun x hx => by
    have := mem_take_lt hx
    simp; omega
  have f2 : (l.drop (posK keyOp t l + 1)).filter (fun x => !(keyOp x == t)) = l.drop (posK keyOp t l + 1) := List.filter_eq_self.2 fun x hx => by
    have := h4 x hx
    simp; omega
  unfold delK
  conv => lhs; rw [e]
  rw [List.filter_append, f1, List.filter_cons_of_neg (by simp [hk]), f2]
theorem del_sort {t : Int} {l : List Op} (h : SortK keyOp l) : SortK keyOp (delK t l) := List.Pairwise.sublist List.filter_sublist h
theorem mem_del {t : Int} {l : List Op} {x : Op} : x ∈ delK t l ↔ x ∈ l ∧ keyOp x ≠ t := by simp [delK]

/-! ### What goes -/
def settleN : Nat → Nat → Nat → List Op → Nat × List Op
  | 0, _, n, l => (n, l)
  | k + 1, f, n, l => match findK ((f : Int) * 2000 + (n : Int)) l with
    | some o => if o.c.d = true then settleN k f (n + 1) (delK ((f : Int) * 2000 + (n : Int)) l) else (n, l)
    | none => (n, l)
theorem settle_stop {k f n : Nat} {l : List Op} (h : ∀ o, findK ((f : Int) * 2000 + (n : Int)) l = some o → o.c.d = false) : settleN k f n l = (n, l) := by
  cases k with
  | zero => rfl
  | succ k =>
    unfold settleN
    cases e : findK ((f : Int) * 2000 + (n : Int)) l with
    | none => rfl
    | some o => simp [h o e]
theorem settle_go {k f n : Nat} {l : List Op} {o : Op} (h : findK ((f : Int) * 2000 + (n : Int)) l = some o) (hd : o.c.d = true) : settleN (k + 1) f n l = settleN k f (n + 1) (delK ((f : Int) * 2000 + (n : Int)) l) := by
  simp [settleN, h, hd]

def avTo (p : Int × Nat × List Nat) : AV := .agg (tc p.1 (p.2.1 : Nat) p.2.2 (.osl 1))
theorem un_to (v : Int) (m : Nat) (b : List Nat) : un avTo (.agg (tc v (m : Nat) b (.osl 1))) = some (v, m, b) := un_av (av := avTo) (fun x y h => by
  obtain ⟨v, m, b⟩ := x; obtain ⟨v', m', b'⟩ := y
  simp only [avTo, AV.agg.injEq] at h
  have hl : b.length = b'.length := by
    have := congrArg List.length h
    simp [tc, vc_length] at this
    exact this
  obtain ⟨h1, h2, h3, _⟩ := tc_inj h hl
  have h2 : m = m' := by omega
  rw [h1, h2, h3]) (v, m, b)
attribute [simp] un_to
def okSt (m : Nat) (b : List Nat) (l : List Op) (f : Nat) : Prop := f < 16 ∧ m < 65536 ∧ okV b ∧ baseT b f ≤ 1000 ∧ l.length ≤ 1000001 ∧ SortK keyOp l ∧ ∀ o ∈ l, okOp o ∧ o.q < 1000
def setM (v : Int) (m : Nat) (b : List Nat) (l : List Op) (f : Nat) : List Blk :=
  if (settleN l.length f (baseT b f) l).1 = baseT b f then [.var (tc v (m : Nat) b (.osl 1)), .arr 60 7 (l.map avOp)]
  else [.var (tc v (m : Nat) (b.set f (settleN l.length f (baseT b f) l).1) (.osl 2)), .gone, .arr 60 7 ((settleN l.length f (baseT b f) l).2.map avOp)]
noncomputable def spSettle : Spec
  | [.ptr 0 0 0, .v (.int .u8 f)], [.var cs, .arr ty s es] => match un avTo (.agg cs), un avOps (.fsl s es) with
    | some (v, m, b), some l => open Classical in if ty = 60 ∧ 0 ≤ f ∧ okSt m b l f.toNat then some (.ret (.tup []), setM v m b l f.toNat) else none
    | _, _ => none
  | _, _ => none
open Classical in
theorem bsfAt0 (l : List Op) (f : Nat) (q : Int) : spBSFOp [.fsl 7 (l.map avOp), .agg [.v (.int .u8 (f : Nat)), .v (.int .i64 q), .v (.bool false), .v (.bool false), .v (.bool false), .fsl 2 [], .fsl 2 []], .v (.func (.func 25) #[] #[])] [] =
    if SortK keyOp l ∧ l.length ≤ 100000000 ∧ (∀ y ∈ l, okOp y) ∧ okOp ⟨f, q, ⟨false, false, false, [], []⟩⟩ then some (.ret (.tup [.v (.int .i64 (posK keyOp ((f : Int) * 2000 + q) l : Nat)), .v (.bool (isK' keyOp ((f : Int) * 2000 + q) l))]), []) else none :=
  spc_at (f := fun p : List Op × Op => ([.fsl 7 (p.1.map avOp), avOp p.2, .v (.func (.func 25) #[] #[])], [])) (fun x y h => by
    simp only [Prod.mk.injEq, List.cons.injEq, and_true, true_and, AV.fsl.injEq] at h
    exact Prod.ext (map_avOp h.1) (inj_avOp h.2)) (l, (⟨f, q, ⟨false, false, false, [], []⟩⟩ : Op))
theorem set_base {b : List Nat} {f n : Nat} (h : f < b.length) : baseT (b.set f n) f = n := by
  unfold baseT; rw [List.getElem?_set_self h]
theorem set_self {b : List Nat} {f : Nat} (h : f < b.length) : b.set f (baseT b f) = b := by
  unfold baseT; rw [List.getElem?_eq_getElem h]; exact List.set_getElem_self h
theorem okV_set {b : List Nat} {f n : Nat} (h : okV b) (hn : n < 65536) : okV (b.set f n) := ⟨by rw [List.length_set]; exact h.1, fun x hx => by
  rcases List.mem_or_eq_of_mem_set hx with hx | rfl
  · exact h.2 x hx
  · exact hn⟩
set_option maxHeartbeats 16000000 in
theorem settle_ok : CallOk Try.prog 27 spSettle := by
  refine ok_27 (Env.put_ok [true] (Env.put_ok [true] (Env.none_ok _) del_ok)
    (CallOk.borrow (g_24).enters (CallOk.fixD [.no, .agg [.no, .no, .no, .no, .no, .k 2, .k 2]] (bsfOp_ok ordOp_ok)))) spSettle fun args mem r mem1 h => ?_
  unfold spSettle at h
  split at h
  case h_2 => cases h
  rename_i f cs ty s es
  split at h
  case h_2 => cases h
  rename_i v m b l h1 h2
  split at h
  case isFalse => cases h
  rename_i hc
  cases h
  obtain ⟨rfl, hf0, hf16, hm, hb, hn0, hll, hso, hop⟩ := hc
  have h1 := un_some h1
  simp only [avTo, AV.agg.injEq] at h1
  have h2 := un_some h2
  simp only [avOps, AV.fsl.injEq] at h2
  subst h1
  obtain ⟨rfl, rfl⟩ := h2
  obtain ⟨f, rfl⟩ := Int.eq_ofNat_of_zero_le hf0
  simp only [Int.toNat_natCast] at hf16 hn0 ⊢
  have hm2 : (m : Int) < 65536 := by omega
  have hf2 : (f : Int) < 16 := by omega
  have hbl := hb.1
  have hfl : f < b.length := by omega
  unfold ac_27
  repeat' with_reducible first
  | refine stp ?_ | refine seg_both ?_ ?_ | refine seg_case (fun x h => ?_) (fun h => ?_) | refine seg_gate (fun h => ?_) (fun h => ?_) | refine seg_need ?_ ?_ | refine cond_v (fun h => ?_) (fun h => ?_)
  | refine seg_eval (by simp -dsimp -implicitDefEqProofs; rfl) ?_
  refine wp_loop' (fun j ts mm => ∃ (n : Nat) (l' : List Op), j = l'.length ∧ baseT b f ≤ n ∧ n ≤ 1000 ∧ l'.length ≤ 1000001 ∧ SortK keyOp l' ∧ (∀ o ∈ l', okOp o ∧ o.q < 1000) ∧
    settleN l'.length f n l' = settleN l.length f (baseT b f) l ∧ ts = [(0, .ptr 0 0 0), (1, .v (.int .u8 (f : Nat)))] ∧
    ((n = baseT b f ∧ l' = l ∧ mm = [.var (tc v (m : Nat) (b.set f n) (.osl 1)), .arr 60 7 (l'.map avOp)]) ∨
      (baseT b f < n ∧ mm = [.var (tc v (m : Nat) (b.set f n) (.osl 2)), .gone, .arr 60 7 (l'.map avOp)]))) l.length ?_ ?_
  · refine ⟨[], [0, 1], by simp, rfl, baseT b f, l, rfl, Nat.le_refl _, hn0, hll, hso, hop, rfl, by simp, .inl ⟨rfl, rfl, ?_⟩⟩
    rw [set_self hfl]
    simp
  · rintro j ts mm ⟨n, l', rfl, hn1, hn2, hll', hso', hop', hset, rfl, hmm⟩
    obtain ⟨bb, hbb⟩ : ∃ bb, bb = b.set f n := ⟨_, rfl⟩
    have hbb1 : bb.length = 16 := by rw [hbb, List.length_set]; exact hbl
    have hfb : f < bb.length := by omega
    have hba : bb[f]? = some n := by rw [hbb, List.getElem?_set_self hfl]
    have hat : ∀ x : AV, ((tc v (m : Nat) bb x).drop (2 + f)).take 1 = [.v (.int .u16 n)] := fun x => tc_at hba
    have hle : 2 + f ≤ 18 := by omega
    have hwb : IntKind.wrap .i64 ((n : Nat) : Int) = ((n : Nat) : Int) := IntWalk.i64_in _ (by omega)
    obtain ⟨n1, hn1e⟩ : ∃ n1, n1 = n + 1 := ⟨_, rfl⟩
    have hw16 : IntKind.wrap .u16 ((n : Nat) + 1 : Int) = ((n1 : Nat) : Int) := by rw [IntWalk.u16_in _ (by omega), hn1e]; rfl
    have hset1 : bb.set f n1 = b.set f n1 := by rw [hbb, List.set_set]
    have hput := fun x : AV => tc_put (v := v) (m := ((m : Nat) : Int)) (x := x) f n1 hfb
    have hsh := ops_shaped l'
    have hll2 : l'.length ≤ 100000000 := by omega
    have hbsf := (bsfAt0 l' f n).trans (if_pos ⟨hso', hll2, fun y hy => (hop' y hy).1, ⟨by simp only; omega, by simp only; omega, by simp only; omega⟩⟩)
    rw [← hbb] at hmm
    have hP : (isK' keyOp ((f : Int) * 2000 + (n : Int)) l' = true → ∃ o, l'[posK keyOp ((f : Int) * 2000 + (n : Int)) l']? = some o ∧ findK ((f : Int) * 2000 + (n : Int)) l' = some o ∧
        (l'.map avOp).take (posK keyOp ((f : Int) * 2000 + (n : Int)) l') ++ (l'.map avOp).drop (posK keyOp ((f : Int) * 2000 + (n : Int)) l' + 1) = (delK ((f : Int) * 2000 + (n : Int)) l').map avOp) ∧
        (isK' keyOp ((f : Int) * 2000 + (n : Int)) l' = false → findK ((f : Int) * 2000 + (n : Int)) l' = none) := by
      refine ⟨fun h => ?_, find_no⟩
      obtain ⟨o, ho, hk⟩ := is_at hso' h
      exact ⟨o, ho, find_at hso' ho hk, by rw [del_at hso' ho hk]; simp⟩
    have hdl := del_sort (t := (f : Int) * 2000 + (n : Int)) hso'
    have hdm : ∀ o ∈ delK ((f : Int) * 2000 + (n : Int)) l', okOp o ∧ o.q < 1000 := fun o ho => hop' o (mem_del.1 ho).1
    have hstop := settle_stop (k := l'.length) (f := f) (n := n) (l := l')
    have hgo := fun k o => settle_go (k := k) (f := f) (n := n) (l := l') (o := o)
    rw [← hn1e] at hgo
    generalize hT : (f : Int) * 2000 + (n : Int) = T at *
    generalize posK keyOp T l' = P at *
    have key : ∀ B : Bool, isK' keyOp T l' = B → (B = true → ∃ o, l'[P]? = some o ∧ findK T l' = some o ∧ (l'.map avOp).take P ++ (l'.map avOp).drop (P + 1) = (delK T l').map avOp) ∧ (B = false → findK T l' = none) := fun B hB => hB ▸ hP
    replace hP := key _ rfl
    clear key
    generalize isK' keyOp T l' = B at *
    cases B
    · have hfn := hP.2 rfl
      have hres := hstop fun o ho => by rw [hfn] at ho; cases ho
      rw [hres] at hset
      have hset' := hset.symm
      have hset0 : b.set f (baseT b f) = b := set_self hfl
      have hset2 := hbb
      rcases hmm with ⟨hnn, hl', rfl⟩ | ⟨hnn, rfl⟩
      · repeat' with_reducible first
        | refine stm ?_ | refine seg_both ?_ ?_ | refine seg_case (fun x h => ?_) (fun h => ?_) | refine seg_gate (fun h => ?_) (fun h => ?_) | refine seg_need ?_ ?_ | refine cond_v (fun h => ?_) (fun h => ?_)
        | refine seg_eval (by simp -dsimp -implicitDefEqProofs; rfl) ?_
        refine wp_drawsR (fun ts mm => ts = [(0, .ptr 0 0 0), (1, .v (.int .u8 (f : Nat))), (4, .v (.int .i64 (P : Nat))), (5, .v (.bool false))] ∧ mm = [.var (tc v (m : Nat) bb (.osl 1)), .arr 60 7 (l'.map avOp)]) ?_ ?_
        · intro W hW
          repeat' with_reducible first
          | refine stp ?_ | refine seg_both ?_ ?_ | refine seg_case (fun x h => ?_) (fun h => ?_) | refine seg_gate (fun h => ?_) (fun h => ?_) | refine seg_need ?_ ?_ | refine cond_v (fun h => ?_) (fun h => ?_)
          | refine seg_eval (by simp -dsimp -implicitDefEqProofs [hbb1, hat, hle, hf16, hf2, hwb, hbsf]; rfl) ?_
          all_goals first
            | omega
            | exact hW _ _ ⟨[], [0, 1], by simp, rfl, by simp, by simp⟩
            | trace_state
        · rintro ts mm ⟨rfl, rfl⟩
          repeat' with_reducible first
          | refine stp ?_ | refine seg_both ?_ ?_ | refine seg_case (fun x h => ?_) (fun h => ?_) | refine seg_gate (fun h => ?_) (fun h => ?_) | refine seg_need ?_ ?_ | refine cond_v (fun h => ?_) (fun h => ?_)
          | refine seg_eval (by simp -dsimp -implicitDefEqProofs [hbb1]; rfl) ?_
          all_goals first
            | omega
            | (refine post_fin (vs := []) rfl rfl ⟨[], [0, 1], by simp, rfl, rfl, ?_⟩; have hbA : bb = b := (by rw [hbb, hnn]; exact hset0); simp [setM, hset', hnn, hbA, hl'])
            | trace_state
      · have hnn2 : n ≠ baseT b f := by omega
        repeat' with_reducible first
        | refine stm ?_ | refine seg_both ?_ ?_ | refine seg_case (fun x h => ?_) (fun h => ?_) | refine seg_gate (fun h => ?_) (fun h => ?_) | refine seg_need ?_ ?_ | refine cond_v (fun h => ?_) (fun h => ?_)
        | refine seg_eval (by simp -dsimp -implicitDefEqProofs; rfl) ?_
        refine wp_drawsR (fun ts mm => ts = [(0, .ptr 0 0 0), (1, .v (.int .u8 (f : Nat))), (4, .v (.int .i64 (P : Nat))), (5, .v (.bool false))] ∧ mm = [.var (tc v (m : Nat) bb (.osl 2)), .gone, .arr 60 7 (l'.map avOp)]) ?_ ?_
        · intro W hW
          repeat' with_reducible first
          | refine stp ?_ | refine seg_both ?_ ?_ | refine seg_case (fun x h => ?_) (fun h => ?_) | refine seg_gate (fun h => ?_) (fun h => ?_) | refine seg_need ?_ ?_ | refine cond_v (fun h => ?_) (fun h => ?_)
          | refine seg_eval (by simp -dsimp -implicitDefEqProofs [hbb1, hat, hle, hf16, hf2, hwb, hbsf]; rfl) ?_
          all_goals first
            | omega
            | exact hW _ _ ⟨[], [0, 1, 2], by simp, rfl, by simp, by simp⟩
            | trace_state
        · rintro ts mm ⟨rfl, rfl⟩
          repeat' with_reducible first
          | refine stp ?_ | refine seg_both ?_ ?_ | refine seg_case (fun x h => ?_) (fun h => ?_) | refine seg_gate (fun h => ?_) (fun h => ?_) | refine seg_need ?_ ?_ | refine cond_v (fun h => ?_) (fun h => ?_)
          | refine seg_eval (by simp -dsimp -implicitDefEqProofs [hbb1]; rfl) ?_
          all_goals first
            | omega
            | (refine post_fin (vs := []) rfl rfl ⟨[], [0, 1, 2], by simp, rfl, rfl, ?_⟩; simp [setM, hset', hnn2, hset2])
            | trace_state
    · obtain ⟨o, ho, hfo, hdel⟩ := hP.1 rfl
      have hPl : P < l'.length := (List.getElem?_eq_some_iff.1 ho).1
      have hPl' : (P : Int) < (l'.length : Int) := by omega
      have hget : l'[P]'hPl = o := (List.getElem?_eq_some_iff.1 ho).2
      cases hd : o.c.d
      · have hres := hstop fun o' ho' => by rw [hfo] at ho'; cases ho'; exact hd
        rw [hres] at hset
        have hset' := hset.symm
        have hset0 : b.set f (baseT b f) = b := set_self hfl
        have hset2 := hbb
        obtain ⟨of', oq, ⟨oe, orr, od, oes, ors⟩⟩ := o
        simp only at hd
        subst hd
        rcases hmm with ⟨hnn, hl', rfl⟩ | ⟨hnn, rfl⟩
        · repeat' with_reducible first
          | refine stm ?_ | refine seg_both ?_ ?_ | refine seg_case (fun x h => ?_) (fun h => ?_) | refine seg_gate (fun h => ?_) (fun h => ?_) | refine seg_need ?_ ?_ | refine cond_v (fun h => ?_) (fun h => ?_)
          | refine seg_eval (by simp -dsimp -implicitDefEqProofs; rfl) ?_
          refine wp_drawsR (fun ts mm => ts = [(0, .ptr 0 0 0), (1, .v (.int .u8 (f : Nat))), (4, .v (.int .i64 (P : Nat))), (5, .v (.bool true))] ∧ mm = [.var (tc v (m : Nat) bb (.osl 1)), .arr 60 7 (l'.map avOp)]) ?_ ?_
          · intro W hW
            repeat' with_reducible first
            | refine stp ?_ | refine seg_both ?_ ?_ | refine seg_case (fun x h => ?_) (fun h => ?_) | refine seg_gate (fun h => ?_) (fun h => ?_) | refine seg_need ?_ ?_ | refine cond_v (fun h => ?_) (fun h => ?_)
            | refine seg_eval (by simp -dsimp -implicitDefEqProofs [hbb1, hat, hle, hf16, hf2, hwb, hbsf]; rfl) ?_
            all_goals first
              | omega
              | exact hW _ _ ⟨[], [0, 1], by simp, rfl, by simp, by simp⟩
              | trace_state
          · rintro ts mm ⟨rfl, rfl⟩
            repeat' with_reducible first
            | refine stp ?_ | refine seg_both ?_ ?_ | refine seg_case (fun x h => ?_) (fun h => ?_) | refine seg_gate (fun h => ?_) (fun h => ?_) | refine seg_need ?_ ?_ | refine cond_v (fun h => ?_) (fun h => ?_)
            | refine seg_eval (by simp -dsimp -implicitDefEqProofs [hbb1, ho, hPl, hPl', hget, avOp, cOp]; rfl) ?_
            all_goals first
              | omega
              | (refine post_fin (vs := []) rfl rfl ⟨[], [0, 1], by simp, rfl, rfl, ?_⟩; have hbA : bb = b := (by rw [hbb, hnn]; exact hset0); simp [setM, hset', hnn, hbA, hl'])
              | trace_state
        · have hnn2 : n ≠ baseT b f := by omega
          repeat' with_reducible first
          | refine stm ?_ | refine seg_both ?_ ?_ | refine seg_case (fun x h => ?_) (fun h => ?_) | refine seg_gate (fun h => ?_) (fun h => ?_) | refine seg_need ?_ ?_ | refine cond_v (fun h => ?_) (fun h => ?_)
          | refine seg_eval (by simp -dsimp -implicitDefEqProofs; rfl) ?_
          refine wp_drawsR (fun ts mm => ts = [(0, .ptr 0 0 0), (1, .v (.int .u8 (f : Nat))), (4, .v (.int .i64 (P : Nat))), (5, .v (.bool true))] ∧ mm = [.var (tc v (m : Nat) bb (.osl 2)), .gone, .arr 60 7 (l'.map avOp)]) ?_ ?_
          · intro W hW
            repeat' with_reducible first
            | refine stp ?_ | refine seg_both ?_ ?_ | refine seg_case (fun x h => ?_) (fun h => ?_) | refine seg_gate (fun h => ?_) (fun h => ?_) | refine seg_need ?_ ?_ | refine cond_v (fun h => ?_) (fun h => ?_)
            | refine seg_eval (by simp -dsimp -implicitDefEqProofs [hbb1, hat, hle, hf16, hf2, hwb, hbsf]; rfl) ?_
            all_goals first
              | omega
              | exact hW _ _ ⟨[], [0, 1, 2], by simp, rfl, by simp, by simp⟩
              | trace_state
          · rintro ts mm ⟨rfl, rfl⟩
            repeat' with_reducible first
            | refine stp ?_ | refine seg_both ?_ ?_ | refine seg_case (fun x h => ?_) (fun h => ?_) | refine seg_gate (fun h => ?_) (fun h => ?_) | refine seg_need ?_ ?_ | refine cond_v (fun h => ?_) (fun h => ?_)
            | refine seg_eval (by simp -dsimp -implicitDefEqProofs [hbb1, ho, hPl, hPl', hget, avOp, cOp]; rfl) ?_
            all_goals first
              | omega
              | (refine post_fin (vs := []) rfl rfl ⟨[], [0, 1, 2], by simp, rfl, rfl, ?_⟩; simp [setM, hset', hnn2, hset2])
              | trace_state
      · have hp1 : IntKind.wrap .i64 ((P : Int) + 1) = (P : Int) + 1 := IntWalk.i64_in _ (by omega)
        have hoq := (hop' o (List.mem_of_getElem? ho)).2
        have hok2 := (find_some hfo).2
        have hn10 : n1 ≤ 1000 := by
          have := (hop' o (List.mem_of_getElem? ho)).1
          obtain ⟨a1, a2, a3⟩ := this
          simp only [keyOp] at hok2
          omega
        obtain ⟨k, hk⟩ : ∃ k, l'.length = k + 1 := ⟨l'.length - 1, by omega⟩
        have hlen : k = (delK T l').length := by
          have := congrArg List.length hdel
          simp at this
          omega
        have hg := hgo k o hfo hd
        rw [hk, hg] at hset
        obtain ⟨of', oq, ⟨oe, orr, od, oes, ors⟩⟩ := o
        simp only at hd
        subst hd
        rcases hmm with ⟨hnn, hl', rfl⟩ | ⟨hnn, rfl⟩
        · repeat' with_reducible first
          | refine stm ?_ | refine seg_both ?_ ?_ | refine seg_case (fun x h => ?_) (fun h => ?_) | refine seg_gate (fun h => ?_) (fun h => ?_) | refine seg_need ?_ ?_ | refine cond_v (fun h => ?_) (fun h => ?_)
          | refine seg_eval (by simp -dsimp -implicitDefEqProofs; rfl) ?_
          refine wp_drawsR (fun ts mm => ts = [(0, .ptr 0 0 0), (1, .v (.int .u8 (f : Nat))), (4, .v (.int .i64 (P : Nat))), (5, .v (.bool true))] ∧ mm = [.var (tc v (m : Nat) bb (.osl 1)), .arr 60 7 (l'.map avOp)]) ?_ ?_
          · intro W hW
            repeat' with_reducible first
            | refine stp ?_ | refine seg_both ?_ ?_ | refine seg_case (fun x h => ?_) (fun h => ?_) | refine seg_gate (fun h => ?_) (fun h => ?_) | refine seg_need ?_ ?_ | refine cond_v (fun h => ?_) (fun h => ?_)
            | refine seg_eval (by simp -dsimp -implicitDefEqProofs [hbb1, hat, hle, hf16, hf2, hwb, hbsf]; rfl) ?_
            all_goals first
              | omega
              | exact hW _ _ ⟨[], [0, 1], by simp, rfl, by simp, by simp⟩
              | trace_state
          · rintro ts mm ⟨rfl, rfl⟩
            repeat' with_reducible first
            | refine stp ?_ | refine seg_both ?_ ?_ | refine seg_case (fun x h => ?_) (fun h => ?_) | refine seg_gate (fun h => ?_) (fun h => ?_) | refine seg_need ?_ ?_ | refine cond_v (fun h => ?_) (fun h => ?_)
            | refine seg_eval (by simp -dsimp -implicitDefEqProofs [hbb1, ho, hPl, hPl', hget, avOp, cOp, hp1, spDel, hsh, hll2, hdel, hw16, hat, hle, hf16, hf2, hput, Int.toNat_natCast]; rfl) ?_
            all_goals first
              | omega
              | exact ⟨k, by omega, [], [0, 1, 2], by simp, rfl, n1, delK T l', hlen, by omega, by omega, by omega, hdl, hdm, by rw [← hlen]; exact hset, by simp, .inr ⟨by omega, by simp [hset1]⟩⟩
              | trace_state
        · repeat' with_reducible first
          | refine stm ?_ | refine seg_both ?_ ?_ | refine seg_case (fun x h => ?_) (fun h => ?_) | refine seg_gate (fun h => ?_) (fun h => ?_) | refine seg_need ?_ ?_ | refine cond_v (fun h => ?_) (fun h => ?_)
          | refine seg_eval (by simp -dsimp -implicitDefEqProofs; rfl) ?_
          refine wp_drawsR (fun ts mm => ts = [(0, .ptr 0 0 0), (1, .v (.int .u8 (f : Nat))), (4, .v (.int .i64 (P : Nat))), (5, .v (.bool true))] ∧ mm = [.var (tc v (m : Nat) bb (.osl 2)), .gone, .arr 60 7 (l'.map avOp)]) ?_ ?_
          · intro W hW
            repeat' with_reducible first
            | refine stp ?_ | refine seg_both ?_ ?_ | refine seg_case (fun x h => ?_) (fun h => ?_) | refine seg_gate (fun h => ?_) (fun h => ?_) | refine seg_need ?_ ?_ | refine cond_v (fun h => ?_) (fun h => ?_)
            | refine seg_eval (by simp -dsimp -implicitDefEqProofs [hbb1, hat, hle, hf16, hf2, hwb, hbsf]; rfl) ?_
            all_goals first
              | omega
              | exact hW _ _ ⟨[], [0, 1, 2], by simp, rfl, by simp, by simp⟩
              | trace_state
          · rintro ts mm ⟨rfl, rfl⟩
            repeat' with_reducible first
            | refine stp ?_ | refine seg_both ?_ ?_ | refine seg_case (fun x h => ?_) (fun h => ?_) | refine seg_gate (fun h => ?_) (fun h => ?_) | refine seg_need ?_ ?_ | refine cond_v (fun h => ?_) (fun h => ?_)
            | refine seg_eval (by simp -dsimp -implicitDefEqProofs [hbb1, ho, hPl, hPl', hget, avOp, cOp, hp1, spDel, hsh, hll2, hdel, hw16, hat, hle, hf16, hf2, hput, Int.toNat_natCast]; rfl) ?_
            all_goals first
              | omega
              | exact ⟨k, by omega, [], [0, 1, 3], by simp, rfl, n1, delK T l', hlen, by omega, by omega, by omega, hdl, hdm, by rw [← hlen]; exact hset, by simp, .inr ⟨by omega, by simp [hset1]⟩⟩
              | trace_state
end Go.Proofs.Ytkbgndebfcjojaa.Am
