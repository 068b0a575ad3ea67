/-
  THE DOCUMENT'S TABLE: Find, may, put.
-/
import Derived.Test.YtkbgndebfcjojaaZT8
namespace Go.Proofs.Ytkbgndebfcjojaa.Am
set_option linter.unusedSimpArgs false
set_option linter.unusedVariables false
open Go Go.Proofs
attribute [local irreducible] wpA
attribute [-simp] splice

noncomputable def spFind : Spec := sp3 avTb (avI .u8) (avI .i64) (fun t f q => okV t.b ∧ t.os.length ≤ 1000005 ∧ (∀ o ∈ t.os, okOp o) ∧ (0 ≤ f ∧ f < 256) ∧ 0 ≤ q ∧ q < 2000) fun t f q => avCs (caseT t.os f.toNat q)
theorem case_at {l : List Op} {i f : Nat} {q : Int} {x : Op} (hx : l[i]? = some x) (h0 : ∀ (k : Nat) (y : Op), k < i → l[k]? = some y → keyOp y ≠ (f : Int) * 2000 + q) (h1 : keyOp x = (f : Int) * 2000 + q) : caseT l f q = x.c := by
  have e : findK ((f : Int) * 2000 + q) l = some x := List.find?_eq_some_iff_append.2 ⟨by simp [h1], _, _, split_at hx, fun a ha => by
    obtain ⟨k, hk⟩ := List.mem_iff_getElem?.1 ha
    rw [List.getElem?_take] at hk
    split at hk
    · have := h0 k a ‹_› hk; simpa using this
    · cases hk⟩
  unfold caseT; rw [e]
theorem case_no {l : List Op} {f : Nat} {q : Int} (h0 : ∀ (k : Nat) (y : Op), l[k]? = some y → keyOp y ≠ (f : Int) * 2000 + q) : caseT l f q = zCs := by
  have e : findK ((f : Int) * 2000 + q) l = none := List.find?_eq_none.2 fun x hx => by
    obtain ⟨k, hk⟩ := List.mem_iff_getElem?.1 hx
    simpa using h0 k x hk
  unfold caseT; rw [e]
set_option maxHeartbeats 8000000 in
theorem findT_ok : CallOk Try.prog 31 spFind := by
  refine ok_31 (Env.none_ok _) spFind (wb_sp3 ?_)
  rintro ⟨v, m, b, l⟩ f q ⟨hb, hll, hoks, ⟨hf0, hf1⟩, hq0, hq1⟩
  obtain ⟨f, rfl⟩ := Int.eq_ofNat_of_zero_le hf0
  simp only at hb hll hoks ⊢
  have hbl := hb.1
  simp only [avTb, avI, Int.toNat_natCast]
  unfold ac_31
  repeat' with_reducible first
  | refine stp ?_ | refine seg_both ?_ ?_ | refine seg_case (fun x h => ?_) (fun h => ?_) | refine seg_gate (fun h => ?_) (fun h => ?_) | refine seg_need ?_ ?_ | refine cond_v (fun h => ?_) (fun h => ?_)
  | refine seg_eval (by simp -dsimp -implicitDefEqProofs [hbl]; rfl) ?_
  refine wp_loop' (fun j ts mm => ∃ i : Nat, i + j = l.length ∧ (∀ (k : Nat) (y : Op), k < i → l[k]? = some y → keyOp y ≠ (f : Int) * 2000 + q) ∧
    ts = [(1, .v (.int .u8 (f : Nat))), (2, .v (.int .i64 q)), (3, .fptr (.agg (tc v (m : Nat) b (.fsl 7 (l.map avOp)))) 0), (6, .ptr 0 0 0), (7, .v (.int .i64 i))] ∧
    mm = [.var [.v (.bool false), .v (.bool false), .v (.bool false), .v (.slice none 0 0), .v (.slice none 0 0)]]) l.length ?_ ?_
  · exact ⟨[], [1], by simp, rfl, 0, by omega, fun k y hk => by omega, by simp, by simp⟩
  · rintro j ts mm ⟨i, hi, hno, rfl, rfl⟩
    by_cases hlt : i < l.length
    · obtain ⟨x, hx⟩ : ∃ x, l[i]? = some x := ⟨_, List.getElem?_eq_getElem (by omega)⟩
      have hd : decide ((i : Int) < (l.length : Int)) = true := by rw [decide_eq_true_eq]; omega
      have hd2 : decide (i < l.length) = true := by simp [hlt]
      have h64 : IntKind.wrap .i64 ((i : Int) + 1) = ((i + 1 : Nat) : Int) := by rw [IntWalk.i64_in _ (by omega)]; rfl
      have hxo := hoks x (List.mem_of_getElem? hx)
      have hnext : keyOp x ≠ (f : Int) * 2000 + q → ∀ (k : Nat) (y : Op), k < i + 1 → l[k]? = some y → keyOp y ≠ (f : Int) * 2000 + q := fun hne k y hk hy => by
        rcases Nat.lt_or_eq_of_le (Nat.le_of_lt_succ hk) with h | h
        · exact hno k y h hy
        · subst h; rw [hx] at hy; cases hy; exact hne
      have hat := fun h => case_at hx hno h
      obtain ⟨xf, xq, ⟨xe, xr, xd, xes, xrs⟩⟩ := x
      obtain ⟨a1, a2, a3⟩ := hxo
      simp only [keyOp] at a1 a2 a3 hnext hat
      by_cases q1 : xf = f
      · subst q1
        have c1 : (xf == xf) = true := by simp
        by_cases q2 : xq = q
        · subst q2
          have c2 : (xq == xq) = true := by simp
          rw [hat rfl]
          simp only [avCs]
          repeat' with_reducible first
          | refine stp ?_ | refine seg_both ?_ ?_ | refine seg_case (fun x h => ?_) (fun h => ?_) | refine seg_gate (fun h => ?_) (fun h => ?_) | refine seg_need ?_ ?_ | refine cond_v (fun h => ?_) (fun h => ?_)
          | refine seg_eval (by simp -dsimp -implicitDefEqProofs [avOp, cOp, hbl, hd, hd2, hx, c1, c2]; rfl) ?_
          all_goals first
            | omega
            | exact post_fin rfl rfl ⟨[], [], rfl, rfl, rfl, rfl⟩
            | trace_state
        · have c2 : (xq == q) = false := by simp [q2]
          replace hnext := hnext (by omega)
          repeat' with_reducible first
          | refine stp ?_ | refine seg_both ?_ ?_ | refine seg_case (fun x h => ?_) (fun h => ?_) | refine seg_gate (fun h => ?_) (fun h => ?_) | refine seg_need ?_ ?_ | refine cond_v (fun h => ?_) (fun h => ?_)
          | refine seg_eval (by simp -dsimp -implicitDefEqProofs [avOp, cOp, hbl, hd, hd2, hx, c1, c2, h64]; rfl) ?_
          all_goals first
            | omega
            | exact ⟨j - 1, by omega, [], [0], by simp, rfl, i + 1, by omega, hnext, by simp, by simp⟩
            | trace_state
      · have c1 : (xf == f) = false := by simp [q1]
        have c1' : ((xf : Int) == (f : Int)) = false := by simp; omega
        replace hnext := hnext (by omega)
        repeat' with_reducible first
        | refine stp ?_ | refine seg_both ?_ ?_ | refine seg_case (fun x h => ?_) (fun h => ?_) | refine seg_gate (fun h => ?_) (fun h => ?_) | refine seg_need ?_ ?_ | refine cond_v (fun h => ?_) (fun h => ?_)
        | refine seg_eval (by simp -dsimp -implicitDefEqProofs [avOp, cOp, hbl, hd, hd2, hx, c1, c1', h64]; rfl) ?_
        all_goals first
          | omega
          | exact ⟨j - 1, by omega, [], [0], by simp, rfl, i + 1, by omega, hnext, by simp, by simp⟩
          | trace_state
    · have hd : decide ((i : Int) < (l.length : Int)) = false := by rw [decide_eq_false_iff_not]; omega
      have hd2 : decide (i < l.length) = false := by simp [hlt]
      rw [case_no fun k y hy => hno k y (by have := (List.getElem?_eq_some_iff.1 hy).1; omega) hy]
      simp only [avCs, zCs, List.map_nil]
      repeat' with_reducible first
      | refine stp ?_ | refine seg_both ?_ ?_ | refine seg_case (fun x h => ?_) (fun h => ?_) | refine seg_gate (fun h => ?_) (fun h => ?_) | refine seg_need ?_ ?_ | refine cond_v (fun h => ?_) (fun h => ?_)
      | refine seg_eval (by simp -dsimp -implicitDefEqProofs [hd, hd2, hbl]; rfl) ?_
      all_goals first
        | omega
        | exact post_finS rfl rfl (.agg (.cons (.rfl _) (.cons (.rfl _) (.cons (.rfl _) (.cons (.nil 0 2) (.cons (.nil 0 2) .nil)))))) ⟨[], [], rfl, rfl, rfl, rfl⟩
        | trace_state
set_option maxHeartbeats 16000000 in
theorem mayR_ok : CallOk Try.prog 29 spMay := by
  refine ok_29 (Env.put_ok [] (Env.put_ok [] (Env.none_ok _) hasR_ok) rightTR_ok) spMay (wb_sp2 ?_)
  rintro ⟨v, m, b, l⟩ ⟨nv, nf, nq⟩ ⟨hok, hnf⟩
  obtain ⟨hm, hb, hll, hol⟩ := id hok
  simp only at hm hb hll hol hnf ⊢
  have hm2 : (m : Int) < 65536 := by omega
  have hnf2 : (nf : Int) < 256 := by omega
  have hbl := hb.1
  simp only [avTb, avNm]
  unfold ac_29
  by_cases h1 : rightT ⟨v, m, b, l⟩ = false
  · have e : mayT ⟨v, m, b, l⟩ ⟨nv, nf, nq⟩ = 2 := by unfold mayT; rw [if_pos h1]
    rw [e]
    repeat' with_reducible first
    | refine stp ?_ | refine seg_both ?_ ?_ | refine seg_case (fun x h => ?_) (fun h => ?_) | refine seg_gate (fun h => ?_) (fun h => ?_) | refine seg_need ?_ ?_ | refine cond_v (fun h => ?_) (fun h => ?_)
    | refine seg_eval (by simp -dsimp -implicitDefEqProofs [hbl, spRightT, hok, h1]; rfl) ?_
    all_goals first
      | exact hok
      | exact post_fin rfl rfl ⟨[], [], rfl, rfl, rfl, rfl⟩
      | trace_state
  have h1' : rightT ⟨v, m, b, l⟩ = true := by simpa using h1
  by_cases h2 : nv = v
  · subst h2
    have c2 : (nv != nv) = false := by simp
    cases h3 : hasS m nf
    · have e : mayT ⟨nv, m, b, l⟩ ⟨nv, nf, nq⟩ = 10 := by simp [mayT, h1', h3]
      rw [e]
      repeat' with_reducible first
      | refine stp ?_ | refine seg_both ?_ ?_ | refine seg_case (fun x h => ?_) (fun h => ?_) | refine seg_gate (fun h => ?_) (fun h => ?_) | refine seg_need ?_ ?_ | refine cond_v (fun h => ?_) (fun h => ?_)
      | refine seg_eval (by simp -dsimp -implicitDefEqProofs [hbl, spRightT, hok, h1', c2, spHas, hm2, hnf2, h3, Int.toNat_natCast]; rfl) ?_
      all_goals first
        | omega
        | exact hok
        | exact post_fin rfl rfl ⟨[], [], rfl, rfl, rfl, rfl⟩
        | trace_state
    · have hf16 := has_lt hm h3
      have hf16' : (nf : Int) < 16 := by omega
      have hle : 2 + nf ≤ 18 := by omega
      obtain ⟨hba, hbn⟩ := base_at hb hf16
      have hat := tc_at (v := nv) (m := (m : Int)) (x := .fsl 7 (l.map avOp)) hba
      have hwb : IntKind.wrap .i64 ((baseT b nf : Nat) : Int) = ((baseT b nf : Nat) : Int) := IntWalk.i64_in _ (by omega)
      by_cases h4 : nq < 0
      · have k4 : decide (nq < 0) = true := by simp [h4]
        have e : mayT ⟨nv, m, b, l⟩ ⟨nv, nf, nq⟩ = 2 := by simp [mayT, h1', h3, h4]
        rw [e]
        repeat' with_reducible first
        | refine stp ?_ | refine seg_both ?_ ?_ | refine seg_case (fun x h => ?_) (fun h => ?_) | refine seg_gate (fun h => ?_) (fun h => ?_) | refine seg_need ?_ ?_ | refine cond_v (fun h => ?_) (fun h => ?_)
        | refine seg_eval (by simp -dsimp -implicitDefEqProofs [hbl, spRightT, hok, h1', c2, spHas, hm2, hnf2, h3, k4, Int.toNat_natCast]; rfl) ?_
        all_goals first
          | omega
          | exact hok
          | exact post_fin rfl rfl ⟨[], [], rfl, rfl, rfl, rfl⟩
          | trace_state
      have k4 : decide (nq < 0) = false := by simp [h4]
      by_cases h5 : 1000 ≤ nq
      · have k5 : decide (1000 ≤ nq) = true := by simp [h5]
        have e : mayT ⟨nv, m, b, l⟩ ⟨nv, nf, nq⟩ = 2 := by simp [mayT, h1', h3, h5]
        rw [e]
        repeat' with_reducible first
        | refine stp ?_ | refine seg_both ?_ ?_ | refine seg_case (fun x h => ?_) (fun h => ?_) | refine seg_gate (fun h => ?_) (fun h => ?_) | refine seg_need ?_ ?_ | refine cond_v (fun h => ?_) (fun h => ?_)
        | refine seg_eval (by simp -dsimp -implicitDefEqProofs [hbl, spRightT, hok, h1', c2, spHas, hm2, hnf2, h3, k4, k5, Int.toNat_natCast]; rfl) ?_
        all_goals first
          | omega
          | exact hok
          | exact post_fin rfl rfl ⟨[], [], rfl, rfl, rfl, rfl⟩
          | trace_state
      have k5 : decide (1000 ≤ nq) = false := by simp [h5]
      have hws : IntKind.wrap .i64 ((baseT b nf : Nat) + 8 : Int) = (baseT b nf : Nat) + 8 := IntWalk.i64_in _ (by omega)
      have e0 : mayT ⟨nv, m, b, l⟩ ⟨nv, nf, nq⟩ = if nq < (baseT b nf : Int) then 6 else if (baseT b nf : Int) + 8 ≤ nq then 7 else 0 := by
        unfold mayT
        rw [if_neg h1, if_neg (by simp), if_neg (by simp [h3]), if_neg (by simp only; omega)]
      rw [e0]
      by_cases h6 : nq < (baseT b nf : Int)
      · have k6 : decide (nq < (baseT b nf : Int)) = true := by simp [h6]
        rw [if_pos h6]
        repeat' with_reducible first
        | refine stp ?_ | refine seg_both ?_ ?_ | refine seg_case (fun x h => ?_) (fun h => ?_) | refine seg_gate (fun h => ?_) (fun h => ?_) | refine seg_need ?_ ?_ | refine cond_v (fun h => ?_) (fun h => ?_)
        | refine seg_eval (by simp -dsimp -implicitDefEqProofs [hbl, spRightT, hok, h1', c2, spHas, hm2, hnf2, hf16, hf16', hle, hat, hwb, h3, k4, k5, hws, k6, Int.toNat_natCast]; rfl) ?_
        all_goals first
          | omega
          | exact hok
          | exact post_fin rfl rfl ⟨[], [], rfl, rfl, rfl, rfl⟩
          | trace_state
      · have k6 : decide (nq < (baseT b nf : Int)) = false := by simp [h6]
        rw [if_neg h6]
        by_cases h7 : (baseT b nf : Int) + 8 ≤ nq
        · have k7 : decide ((baseT b nf : Int) + 8 ≤ nq) = true := by simp [h7]
          rw [if_pos h7]
          repeat' with_reducible first
          | refine stp ?_ | refine seg_both ?_ ?_ | refine seg_case (fun x h => ?_) (fun h => ?_) | refine seg_gate (fun h => ?_) (fun h => ?_) | refine seg_need ?_ ?_ | refine cond_v (fun h => ?_) (fun h => ?_)
          | refine seg_eval (by simp -dsimp -implicitDefEqProofs [hbl, spRightT, hok, h1', c2, spHas, hm2, hnf2, hf16, hf16', hle, hat, hwb, h3, k4, k5, hws, k6, k7, Int.toNat_natCast]; rfl) ?_
          all_goals first
            | omega
            | exact hok
            | exact post_fin rfl rfl ⟨[], [], rfl, rfl, rfl, rfl⟩
            | trace_state
        · have k7 : decide ((baseT b nf : Int) + 8 ≤ nq) = false := by simp [h7]
          rw [if_neg h7]
          repeat' with_reducible first
          | refine stp ?_ | refine seg_both ?_ ?_ | refine seg_case (fun x h => ?_) (fun h => ?_) | refine seg_gate (fun h => ?_) (fun h => ?_) | refine seg_need ?_ ?_ | refine cond_v (fun h => ?_) (fun h => ?_)
          | refine seg_eval (by simp -dsimp -implicitDefEqProofs [hbl, spRightT, hok, h1', c2, spHas, hm2, hnf2, hf16, hf16', hle, hat, hwb, h3, k4, k5, hws, k6, k7, Int.toNat_natCast]; rfl) ?_
          all_goals first
            | omega
            | exact hok
            | exact post_fin rfl rfl ⟨[], [], rfl, rfl, rfl, rfl⟩
            | trace_state
  · have c2 : (nv != v) = true := by simp [h2]
    have e : mayT ⟨v, m, b, l⟩ ⟨nv, nf, nq⟩ = 11 := by simp [mayT, h1', h2]
    rw [e]
    repeat' with_reducible first
    | refine stp ?_ | refine seg_both ?_ ?_ | refine seg_case (fun x h => ?_) (fun h => ?_) | refine seg_gate (fun h => ?_) (fun h => ?_) | refine seg_need ?_ ?_ | refine cond_v (fun h => ?_) (fun h => ?_)
    | refine seg_eval (by simp -dsimp -implicitDefEqProofs [hbl, spRightT, hok, h1', c2]; rfl) ?_
    all_goals first
      | exact hok
      | exact post_fin rfl rfl ⟨[], [], rfl, rfl, rfl, rfl⟩
      | trace_state


/-! ### One put at its place -/
def lo (t : Int) (l : List Op) : List Op := l.filter fun x => decide (keyOp x < t)
def hi (t : Int) (l : List Op) : List Op := l.filter fun x => decide (t < keyOp x)
theorem mem_drop_ge {t : Int} {l : List Op} {k : Nat} {x : Op} (hs : SortK keyOp l) (hk : posK keyOp t l ≤ k) (h : x ∈ l.drop k) : t ≤ keyOp x := by
  obtain ⟨j, hj⟩ := List.mem_iff_getElem?.1 h
  rw [List.getElem?_drop] at hj
  exact posK_ge hs (by omega) hj
theorem lo_eq {t : Int} {l : List Op} (hs : SortK keyOp l) : lo t l = l.take (posK keyOp t l) := by
  unfold lo
  conv => lhs; rw [← List.take_append_drop (posK keyOp t l) l]
  rw [List.filter_append, List.filter_eq_self.2 (fun x hx => by simpa using mem_take_lt hx), List.filter_eq_nil_iff.2 (fun x hx => by have := mem_drop_ge hs (Nat.le_refl _) hx; simp; omega), List.append_nil]
theorem hi_eq {t : Int} {l : List Op} (hs : SortK keyOp l) : hi t l = l.drop (if isK' keyOp t l = true then posK keyOp t l + 1 else posK keyOp t l) := by
  unfold hi
  have h0 : (l.take (posK keyOp t l)).filter (fun x => decide (t < keyOp x)) = [] := List.filter_eq_nil_iff.2 fun x hx => by have := mem_take_lt hx; simp; omega
  split
  · rename_i h
    obtain ⟨o, ho, hk⟩ := is_at hs h
    have e := split_at ho
    have hs2 : SortK keyOp (l.take (posK keyOp t l) ++ o :: l.drop (posK keyOp t l + 1)) := e ▸ hs
    obtain ⟨_, h3, _⟩ := List.pairwise_append.1 hs2
    obtain ⟨h4, _⟩ := List.pairwise_cons.1 h3
    conv => lhs; rw [e]
    rw [List.filter_append, h0, List.nil_append, List.filter_cons_of_neg (by simp [hk]), List.filter_eq_self.2 fun x hx => by have := h4 x hx; simp; omega]
  · rename_i h
    have hn := isK_false.1 (by simpa using h : isK' keyOp t l = false)
    conv => lhs; rw [← List.take_append_drop (posK keyOp t l) l]
    rw [List.filter_append, h0, List.nil_append, List.filter_eq_self.2 fun x hx => by
      have := mem_drop_ge hs (Nat.le_refl _) hx
      have := hn x (List.mem_of_mem_drop hx)
      simp; omega]
theorem rep_eq {o : Op} {l : List Op} (hs : SortK keyOp l) : repK o l = lo (keyOp o) l ++ [o] ++ hi (keyOp o) l := by
  rw [lo_eq hs, hi_eq hs]
  unfold repK
  split
  · rename_i h
    obtain ⟨x, hx, _⟩ := is_at hs h
    exact set_split o l _ (List.getElem?_eq_some_iff.1 hx).1
  · rfl
theorem del_eq {t : Int} {l : List Op} (hs : SortK keyOp l) : delK t l = lo t l ++ hi t l := by
  rw [lo_eq hs, hi_eq hs]
  split
  · rename_i h
    obtain ⟨x, hx, hk⟩ := is_at hs h
    exact del_at hs hx hk
  · rename_i h
    rw [List.take_append_drop]
    exact List.filter_eq_self.2 fun x hx => by have := isK_false.1 (by simpa using h : isK' keyOp t l = false) x hx; simpa using this
def putO (g : Bool) (o : Op) (l : List Op) : List Op := lo (keyOp o) l ++ (if g = false ∧ hi (keyOp o) l ≠ [] then [o] else []) ++ hi (keyOp o) l
def putD (g : Bool) (o : Op) (l : List Op) : Bool := g || !(hi (keyOp o) l).isEmpty
theorem put_lt {g : Bool} {o y : Op} {l : List Op} (hs : SortK keyOp (l ++ [y])) (h : keyOp y < keyOp o) : putO g o (l ++ [y]) = putO g o l ++ [y] ∧ putD g o (l ++ [y]) = putD g o l := by
  have h0 : hi (keyOp o) l = [] := List.filter_eq_nil_iff.2 fun x hx => by
    have := (List.pairwise_append.1 hs).2.2 x hx y (by simp)
    simp; omega
  have h1 : hi (keyOp o) (l ++ [y]) = [] := by unfold hi at h0 ⊢; rw [List.filter_append, h0]; simp; omega
  have h2 : lo (keyOp o) (l ++ [y]) = lo (keyOp o) l ++ [y] := by unfold lo; rw [List.filter_append]; simp [h]
  simp [putO, putD, h0, h1, h2]
theorem put_same {g : Bool} {o y : Op} {l : List Op} (h : keyOp y = keyOp o) : putO g o (l ++ [y]) = putO g o l ∧ putD g o (l ++ [y]) = putD g o l := by
  have h1 : hi (keyOp o) (l ++ [y]) = hi (keyOp o) l := by unfold hi; rw [List.filter_append]; simp [h]
  have h2 : lo (keyOp o) (l ++ [y]) = lo (keyOp o) l := by unfold lo; rw [List.filter_append]; simp [h]
  simp [putO, putD, h1, h2]
theorem put_gt {g : Bool} {o y : Op} {l : List Op} (h : keyOp o < keyOp y) : putO g o (l ++ [y]) = (if putD g o l = true then putO g o l ++ [y] else putO g o l ++ [o] ++ [y]) ∧ putD g o (l ++ [y]) = true := by
  have h1 : hi (keyOp o) (l ++ [y]) = hi (keyOp o) l ++ [y] := by unfold hi; rw [List.filter_append]; simp [h]
  have h2 : lo (keyOp o) (l ++ [y]) = lo (keyOp o) l := by unfold lo; rw [List.filter_append]; simp; omega
  cases g
  · cases e : hi (keyOp o) l <;> simp [putO, putD, h1, h2, e]
  · simp [putO, putD, h1, h2]
theorem put_len {g : Bool} {o : Op} {l : List Op} : (putO g o l).length ≤ 2 * l.length + 1 := by
  unfold putO
  have h1 : (lo (keyOp o) l).length ≤ l.length := List.length_filter_le _ _
  have h2 : (hi (keyOp o) l).length ≤ l.length := List.length_filter_le _ _
  split <;> simp <;> omega
theorem put_end {g : Bool} {o : Op} {l : List Op} (hs : SortK keyOp l) : (if putD g o l = true then putO g o l else putO g o l ++ [o]) = if g = true then delK (keyOp o) l else repK o l := by
  rw [rep_eq hs, del_eq hs]
  cases g
  · cases e : hi (keyOp o) l <;> simp [putO, putD, e]
  · simp [putO, putD]
noncomputable def spPutR : Spec := sp3 avOps avOp avB (fun l o _ => SortK keyOp l ∧ (∀ y ∈ l, okOp y) ∧ okOp o ∧ l.length ≤ 1000002) fun l o g => avOps (if g = true then delK (keyOp o) l else repK o l)
set_option maxHeartbeats 16000000 in
theorem putR_ok : CallOk Try.prog 32 spPutR := by
  refine ok_32 (Env.none_ok _) spPutR (wb_sp3 ?_)
  rintro l o g ⟨hs, hoks, hoo, hll⟩
  rw [← put_end hs]
  have hsh := op_shaped o
  obtain ⟨oc, hoc⟩ : ∃ oc, oc = cOp o := ⟨_, rfl⟩
  simp only [avOps, avB]
  have hsz : (avOp o) = .agg [.v (.int .u8 (o.f : Nat)), .v (.int .i64 o.q), .v (.bool o.c.e), .v (.bool o.c.r), .v (.bool o.c.d), .fsl 2 (o.c.es.map avBa), .fsl 2 (o.c.rs.map avBa)] := rfl
  rw [hsz]
  unfold ac_32
  repeat' with_reducible first
  | refine stp ?_ | refine seg_both ?_ ?_ | refine seg_case (fun x h => ?_) (fun h => ?_) | refine seg_gate (fun h => ?_) (fun h => ?_) | refine seg_need ?_ ?_ | refine cond_v (fun h => ?_) (fun h => ?_)
  | refine seg_eval (by simp -dsimp -implicitDefEqProofs; rfl) ?_
  refine wp_loopR (fun ts mm => ts = [(4, .fptr (avOp o) 0), (7, .osl 0), (8, .v (.bool (putD g o l)))] ∧ mm = [.arr 66 7 ((putO g o l).map avOp)])
    (fun j ts mm => ∃ i : Nat, i + j = l.length ∧ ts = [(0, .fsl 7 (l.map avOp)), (4, .fptr (avOp o) 0), (7, .osl 0), (8, .v (.bool (putD g o (l.take i)))), (9, .v (.int .i64 i))] ∧
      mm = [.arr 66 7 ((putO g o (l.take i)).map avOp)]) l.length ?_ ?_ ?_
  · exact ⟨[(7, 66, 7)], [1], by simp, rfl, 0, by omega, by simp [putD, hi, hsz], by simp [putO, lo, hi]⟩
  · rintro W hW j ts mm ⟨i, hi, rfl, rfl⟩
    by_cases hlt : i < l.length
    · obtain ⟨x, hx⟩ : ∃ x, l[i]? = some x := ⟨_, List.getElem?_eq_getElem (by omega)⟩
      have hd : decide ((i : Int) < (l.length : Int)) = true := by rw [decide_eq_true_eq]; omega
      have hd2 : decide (i < l.length) = true := by simp [hlt]
      have h64 : IntKind.wrap .i64 ((i : Int) + 1) = ((i + 1 : Nat) : Int) := by rw [IntWalk.i64_in _ (by omega)]; rfl
      have hxo := hoks x (List.mem_of_getElem? hx)
      have hst := take_more hx
      have hs1 : SortK keyOp (l.take (i + 1)) := List.Pairwise.sublist (List.take_sublist _ l) hs
      have p1 := fun h => put_lt (g := g) (o := o) (hst ▸ hs1) h
      have p2 := fun h => put_same (g := g) (o := o) (l := l.take i) (y := x) h
      have p3 := fun h => put_gt (g := g) (o := o) (l := l.take i) (y := x) h
      rw [← hst] at p1 p2 p3
      have hul := put_len (g := g) (o := o) (l := l.take i)
      have hul2 : (putO g o (l.take i)).length ≤ 3000005 := by simp at hul; omega
      have hul3 : ((putO g o (l.take i)).length + 1) ≤ 3000006 := by omega
      generalize putO g o (l.take i) = U at *
      generalize putD g o (l.take i) = D at *
      have hush := ops_shaped U
      have hxsh := op_shaped x
      obtain ⟨of, oq, ⟨oe, orr, od, oes, ors⟩⟩ := o
      obtain ⟨xf, xq, ⟨xe, xr, xd, xes, xrs⟩⟩ := x
      obtain ⟨a1, a2, a3⟩ := hxo
      obtain ⟨b1, b2, b3⟩ := hoo
      simp only [avOp, cOp] at hsh hxsh
      simp only [keyOp] at a1 a2 a3 b1 b2 b3 p1 p2 p3
      rcases (by omega : of < xf ∨ xf < of ∨ (xf = of ∧ (oq < xq ∨ xq = oq ∨ xq < oq))) with h | h | ⟨h, h2 | h2 | h2⟩
      · have pp := p3 (by omega)
        have c1 : decide (of < xf) = true := by simp; omega
        have c1' : decide ((of : Int) < (xf : Int)) = true := by simp; omega
        have c2 : (of == xf) = false := by simp; omega
        have c2' : ((of : Int) == (xf : Int)) = false := by simp; omega
        have c3 := c2
        have n1 : (xf != of) = true := by simp; omega
        have n1' : ((xf : Int) != (of : Int)) = true := by simp; omega
        have n2 := n1
        cases D
        · repeat' with_reducible first
          | refine stp ?_ | refine seg_both ?_ ?_ | refine seg_case (fun x h => ?_) (fun h => ?_) | refine seg_gate (fun h => ?_) (fun h => ?_) | refine seg_need ?_ ?_ | refine cond_v (fun h => ?_) (fun h => ?_)
          | refine seg_eval (by simp -dsimp -implicitDefEqProofs [avOp, cOp, hd, hd2, hx, h64, c1, c1', c2, c2', c3, n1, n1', n2, hsh, hxsh, hul2, hul3]; rfl) ?_
          all_goals first
            | omega
            | exact ⟨j - 1, by omega, [], [4], by simp, rfl, i + 1, by omega, by simp [avOp, cOp, pp.2], by simp [avOp, cOp, pp.1]⟩
            | trace_state
        · repeat' with_reducible first
          | refine stp ?_ | refine seg_both ?_ ?_ | refine seg_case (fun x h => ?_) (fun h => ?_) | refine seg_gate (fun h => ?_) (fun h => ?_) | refine seg_need ?_ ?_ | refine cond_v (fun h => ?_) (fun h => ?_)
          | refine seg_eval (by simp -dsimp -implicitDefEqProofs [avOp, cOp, hd, hd2, hx, h64, c1, c1', c2, c2', c3, n1, n1', n2, hsh, hxsh, hul2, hul3]; rfl) ?_
          all_goals first
            | omega
            | exact ⟨j - 1, by omega, [], [2], by simp, rfl, i + 1, by omega, by simp [avOp, cOp, pp.2], by simp [avOp, cOp, pp.1]⟩
            | trace_state
      · have pp := p1 (by omega)
        have c1 : decide (of < xf) = false := by simp; omega
        have c1' : decide ((of : Int) < (xf : Int)) = false := by simp; omega
        have c2 : (of == xf) = false := by simp; omega
        have c2' : ((of : Int) == (xf : Int)) = false := by simp; omega
        have c3 := c2
        have n1 : (xf != of) = true := by simp; omega
        have n1' : ((xf : Int) != (of : Int)) = true := by simp; omega
        have n2 := n1
        cases D
        all_goals
          repeat' with_reducible first
          | refine stp ?_ | refine seg_both ?_ ?_ | refine seg_case (fun x h => ?_) (fun h => ?_) | refine seg_gate (fun h => ?_) (fun h => ?_) | refine seg_need ?_ ?_ | refine cond_v (fun h => ?_) (fun h => ?_)
          | refine seg_eval (by simp -dsimp -implicitDefEqProofs [avOp, cOp, hd, hd2, hx, h64, c1, c1', c2, c2', c3, n1, n1', n2, hsh, hxsh, hul2]; rfl) ?_
        all_goals first
          | omega
          | exact ⟨j - 1, by omega, [], [2], by simp, rfl, i + 1, by omega, by simp [avOp, cOp, pp.2], by simp [avOp, cOp, pp.1]⟩
          | trace_state
      · have pp := p3 (by omega)
        have c1 : decide (of < xf) = false := by simp; omega
        have c1' : decide ((of : Int) < (xf : Int)) = false := by simp; omega
        have c2 : (of == xf) = true := by simp; omega
        have c2' : ((of : Int) == (xf : Int)) = true := by simp; omega
        have c3 : decide (oq < xq) = true := by simp; omega
        have n1 : (xf != of) = false := by simp; omega
        have n1' : ((xf : Int) != (of : Int)) = false := by simp; omega
        have n2 : (xq != oq) = true := by simp; omega
        cases D
        · repeat' with_reducible first
          | refine stp ?_ | refine seg_both ?_ ?_ | refine seg_case (fun x h => ?_) (fun h => ?_) | refine seg_gate (fun h => ?_) (fun h => ?_) | refine seg_need ?_ ?_ | refine cond_v (fun h => ?_) (fun h => ?_)
          | refine seg_eval (by simp -dsimp -implicitDefEqProofs [avOp, cOp, hd, hd2, hx, h64, c1, c1', c2, c2', c3, n1, n1', n2, hsh, hxsh, hul2, hul3]; rfl) ?_
          all_goals first
            | omega
            | exact ⟨j - 1, by omega, [], [4], by simp, rfl, i + 1, by omega, by simp [avOp, cOp, pp.2], by simp [avOp, cOp, pp.1]⟩
            | trace_state
        · repeat' with_reducible first
          | refine stp ?_ | refine seg_both ?_ ?_ | refine seg_case (fun x h => ?_) (fun h => ?_) | refine seg_gate (fun h => ?_) (fun h => ?_) | refine seg_need ?_ ?_ | refine cond_v (fun h => ?_) (fun h => ?_)
          | refine seg_eval (by simp -dsimp -implicitDefEqProofs [avOp, cOp, hd, hd2, hx, h64, c1, c1', c2, c2', c3, n1, n1', n2, hsh, hxsh, hul2, hul3]; rfl) ?_
          all_goals first
            | omega
            | exact ⟨j - 1, by omega, [], [2], by simp, rfl, i + 1, by omega, by simp [avOp, cOp, pp.2], by simp [avOp, cOp, pp.1]⟩
            | trace_state
      · have pp := p2 (by omega)
        have c1 : decide (of < xf) = false := by simp; omega
        have c1' : decide ((of : Int) < (xf : Int)) = false := by simp; omega
        have c2 : (of == xf) = true := by simp; omega
        have c2' : ((of : Int) == (xf : Int)) = true := by simp; omega
        have c3 : decide (oq < xq) = false := by simp; omega
        have n1 : (xf != of) = false := by simp; omega
        have n1' : ((xf : Int) != (of : Int)) = false := by simp; omega
        have n2 : (xq != oq) = false := by simp; omega
        cases D
        all_goals
          repeat' with_reducible first
          | refine stp ?_ | refine seg_both ?_ ?_ | refine seg_case (fun x h => ?_) (fun h => ?_) | refine seg_gate (fun h => ?_) (fun h => ?_) | refine seg_need ?_ ?_ | refine cond_v (fun h => ?_) (fun h => ?_)
          | refine seg_eval (by simp -dsimp -implicitDefEqProofs [avOp, cOp, hd, hd2, hx, h64, c1, c1', c2, c2', c3, n1, n1', n2, hsh, hxsh, hul2]; rfl) ?_
        all_goals first
          | omega
          | exact ⟨j - 1, by omega, [], [0], by simp, rfl, i + 1, by omega, by simp [avOp, cOp, pp.2], by simp [avOp, cOp, pp.1]⟩
          | trace_state
      · have pp := p1 (by omega)
        have c1 : decide (of < xf) = false := by simp; omega
        have c1' : decide ((of : Int) < (xf : Int)) = false := by simp; omega
        have c2 : (of == xf) = true := by simp; omega
        have c2' : ((of : Int) == (xf : Int)) = true := by simp; omega
        have c3 : decide (oq < xq) = false := by simp; omega
        have n1 : (xf != of) = false := by simp; omega
        have n1' : ((xf : Int) != (of : Int)) = false := by simp; omega
        have n2 : (xq != oq) = true := by simp; omega
        cases D
        all_goals
          repeat' with_reducible first
          | refine stp ?_ | refine seg_both ?_ ?_ | refine seg_case (fun x h => ?_) (fun h => ?_) | refine seg_gate (fun h => ?_) (fun h => ?_) | refine seg_need ?_ ?_ | refine cond_v (fun h => ?_) (fun h => ?_)
          | refine seg_eval (by simp -dsimp -implicitDefEqProofs [avOp, cOp, hd, hd2, hx, h64, c1, c1', c2, c2', c3, n1, n1', n2, hsh, hxsh, hul2]; rfl) ?_
        all_goals first
          | omega
          | exact ⟨j - 1, by omega, [], [2], by simp, rfl, i + 1, by omega, by simp [avOp, cOp, pp.2], by simp [avOp, cOp, pp.1]⟩
          | trace_state
    · have hd : decide ((i : Int) < (l.length : Int)) = false := by rw [decide_eq_false_iff_not]; omega
      have hd2 : decide (i < l.length) = false := by simp [hlt]
      have hil : l.take i = l := List.take_of_length_le (by omega)
      rw [hil]
      repeat' with_reducible first
      | refine stp ?_ | refine seg_both ?_ ?_ | refine seg_case (fun x h => ?_) (fun h => ?_) | refine seg_gate (fun h => ?_) (fun h => ?_) | refine seg_need ?_ ?_ | refine cond_v (fun h => ?_) (fun h => ?_)
      | refine seg_eval (by simp -dsimp -implicitDefEqProofs [hd, hd2]; rfl) ?_
      all_goals first
        | omega
        | exact hW _ _ ⟨by simp, by simp⟩
        | trace_state
  · rintro ts mm ⟨rfl, rfl⟩
    have hul := put_len (g := g) (o := o) (l := l)
    have hul2 : (putO g o l).length ≤ 3000005 := by omega
    rw [hsz] at hsh ⊢
    cases hD : putD g o l
    · rw [if_neg (by simp)]
      simp only [List.map_append, List.map_cons, List.map_nil, hsz]
      repeat' with_reducible first
      | refine stp ?_ | refine seg_both ?_ ?_ | refine seg_case (fun x h => ?_) (fun h => ?_) | refine seg_gate (fun h => ?_) (fun h => ?_) | refine seg_need ?_ ?_ | refine cond_v (fun h => ?_) (fun h => ?_)
      | refine seg_eval (by simp -dsimp -implicitDefEqProofs [hsh, hul2]; rfl) ?_
      all_goals first
        | omega
        | exact post_fin rfl rfl ⟨[2], [], rfl, rfl, rfl, rfl⟩
        | trace_state
    · rw [if_pos rfl]
      repeat' with_reducible first
      | refine stp ?_ | refine seg_both ?_ ?_ | refine seg_case (fun x h => ?_) (fun h => ?_) | refine seg_gate (fun h => ?_) (fun h => ?_) | refine seg_need ?_ ?_ | refine cond_v (fun h => ?_) (fun h => ?_)
      | refine seg_eval (by simp -dsimp -implicitDefEqProofs; rfl) ?_
      all_goals first
        | omega
        | exact post_fin rfl rfl ⟨[0], [], rfl, rfl, rfl, rfl⟩
        | trace_state
end Go.Proofs.Ytkbgndebfcjojaa.Am
