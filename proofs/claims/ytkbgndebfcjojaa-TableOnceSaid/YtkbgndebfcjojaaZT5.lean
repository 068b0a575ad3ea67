/-
  WHETHER A NAME MAY BE, on both sides; a table of its own.
-/
import Derived.Test.YtkbgndebfcjojaaZT4
import Derived.Test.YtkbgndebfcjojaaZSCOp
namespace Go.Proofs.Ytkbgndebfcjojaa.Am
set_option linter.unusedSimpArgs false
set_option linter.unusedVariables false
open Go Go.Proofs
attribute [local irreducible] wpA
attribute [-simp] splice

structure Nm where
  v : Int
  f : Nat
  q : Int
def avNm (n : Nm) : AV := .agg [.v (.int .i64 n.v), .v (.int .u8 (n.f : Nat)), .v (.int .i64 n.q)]
theorem inj_avNm {x y : Nm} (h : avNm x = avNm y) : x = y := by
  obtain ⟨v, f, q⟩ := x; obtain ⟨v', f', q'⟩ := y
  simp only [avNm, AV.agg.injEq, List.cons.injEq, AV.v.injEq, Value.int.injEq, true_and, and_true] at h
  obtain ⟨h1, h2, h3⟩ := h
  have h2 : f = f' := by omega
  subst h1 h2 h3
  rfl
theorem un_nm (v : Int) (f : Nat) (q : Int) : un avNm (.agg [.v (.int .i64 v), .v (.int .u8 (f : Nat)), .v (.int .i64 q)]) = some ⟨v, f, q⟩ := un_av (av := avNm) (fun _ _ h => inj_avNm h) ⟨v, f, q⟩
attribute [simp] un_nm
noncomputable def mayT (t : Tb) (n : Nm) : Int :=
  if rightT t = false then 2 else if n.v ≠ t.v then 11 else if hasS t.m n.f = false then 10 else if n.q < 0 ∨ 1000 ≤ n.q then 2
  else if n.q < (baseT t.b n.f : Int) then 6 else if (baseT t.b n.f : Int) + 8 ≤ n.q then 7 else 0
noncomputable def spMay : Spec := sp2 avTb avNm (fun t n => okTb t ∧ n.f < 256) fun t n => .v (.int .i64 (mayT t n))
set_option maxHeartbeats 16000000 in
theorem may_ok : CallOk Try.prog 23 spMay := by
  refine ok_23 (Env.put_ok [] (Env.put_ok [] (Env.none_ok _) has_ok) rightT_ok) spMay (wb_sp2 ?_)
  rintro ⟨v, m, b, l⟩ ⟨nv, nf, nq⟩ ⟨hok, hnf⟩
  obtain ⟨hm, hb, hll, hol⟩ := id hok
  simp only at hm hb hll hol hnf ⊢
  have hm2 : (m : Int) < 65536 := by omega
  have hnf2 : (nf : Int) < 256 := by omega
  have hbl := hb.1
  simp only [avTb, avNm]
  unfold ac_23
  by_cases h1 : rightT ⟨v, m, b, l⟩ = false
  · have e : mayT ⟨v, m, b, l⟩ ⟨nv, nf, nq⟩ = 2 := by unfold mayT; rw [if_pos h1]
    rw [e]
    repeat' with_reducible first
    | refine stp ?_ | refine seg_both ?_ ?_ | refine seg_case (fun x h => ?_) (fun h => ?_) | refine seg_gate (fun h => ?_) (fun h => ?_) | refine seg_need ?_ ?_ | refine cond_v (fun h => ?_) (fun h => ?_)
    | refine seg_eval (by simp -dsimp -implicitDefEqProofs [hbl, spRightT, hok, h1]; rfl) ?_
    all_goals first
      | exact hok
      | exact post_fin rfl rfl ⟨[], [], rfl, rfl, rfl, rfl⟩
      | trace_state
  have h1' : rightT ⟨v, m, b, l⟩ = true := by simpa using h1
  by_cases h2 : nv = v
  · subst h2
    have c2 : (nv != nv) = false := by simp
    cases h3 : hasS m nf
    · have e : mayT ⟨nv, m, b, l⟩ ⟨nv, nf, nq⟩ = 10 := by simp [mayT, h1', h3]
      rw [e]
      repeat' with_reducible first
      | refine stp ?_ | refine seg_both ?_ ?_ | refine seg_case (fun x h => ?_) (fun h => ?_) | refine seg_gate (fun h => ?_) (fun h => ?_) | refine seg_need ?_ ?_ | refine cond_v (fun h => ?_) (fun h => ?_)
      | refine seg_eval (by simp -dsimp -implicitDefEqProofs [hbl, spRightT, hok, h1', c2, spHas, hm2, hnf2, h3, Int.toNat_natCast]; rfl) ?_
      all_goals first
        | omega
        | exact hok
        | exact post_fin rfl rfl ⟨[], [], rfl, rfl, rfl, rfl⟩
        | trace_state
    · have hf16 := has_lt hm h3
      have hf16' : (nf : Int) < 16 := by omega
      have hle : 2 + nf ≤ 18 := by omega
      obtain ⟨hba, hbn⟩ := base_at hb hf16
      have hat := tc_at (v := nv) (m := (m : Int)) (x := .fsl 7 (l.map avOp)) hba
      have hwb : IntKind.wrap .i64 ((baseT b nf : Nat) : Int) = ((baseT b nf : Nat) : Int) := IntWalk.i64_in _ (by omega)
      by_cases h4 : nq < 0
      · have k4 : decide (nq < 0) = true := by simp [h4]
        have e : mayT ⟨nv, m, b, l⟩ ⟨nv, nf, nq⟩ = 2 := by simp [mayT, h1', h3, h4]
        rw [e]
        repeat' with_reducible first
        | refine stp ?_ | refine seg_both ?_ ?_ | refine seg_case (fun x h => ?_) (fun h => ?_) | refine seg_gate (fun h => ?_) (fun h => ?_) | refine seg_need ?_ ?_ | refine cond_v (fun h => ?_) (fun h => ?_)
        | refine seg_eval (by simp -dsimp -implicitDefEqProofs [hbl, spRightT, hok, h1', c2, spHas, hm2, hnf2, h3, k4, Int.toNat_natCast]; rfl) ?_
        all_goals first
          | omega
          | exact hok
          | exact post_fin rfl rfl ⟨[], [], rfl, rfl, rfl, rfl⟩
          | trace_state
      have k4 : decide (nq < 0) = false := by simp [h4]
      by_cases h5 : 1000 ≤ nq
      · have k5 : decide (1000 ≤ nq) = true := by simp [h5]
        have e : mayT ⟨nv, m, b, l⟩ ⟨nv, nf, nq⟩ = 2 := by simp [mayT, h1', h3, h5]
        rw [e]
        repeat' with_reducible first
        | refine stp ?_ | refine seg_both ?_ ?_ | refine seg_case (fun x h => ?_) (fun h => ?_) | refine seg_gate (fun h => ?_) (fun h => ?_) | refine seg_need ?_ ?_ | refine cond_v (fun h => ?_) (fun h => ?_)
        | refine seg_eval (by simp -dsimp -implicitDefEqProofs [hbl, spRightT, hok, h1', c2, spHas, hm2, hnf2, h3, k4, k5, Int.toNat_natCast]; rfl) ?_
        all_goals first
          | omega
          | exact hok
          | exact post_fin rfl rfl ⟨[], [], rfl, rfl, rfl, rfl⟩
          | trace_state
      have k5 : decide (1000 ≤ nq) = false := by simp [h5]
      have hws : IntKind.wrap .i64 (nq - (baseT b nf : Nat)) = nq - (baseT b nf : Nat) := IntWalk.i64_in _ (by omega)
      have e0 : mayT ⟨nv, m, b, l⟩ ⟨nv, nf, nq⟩ = if nq < (baseT b nf : Int) then 6 else if (baseT b nf : Int) + 8 ≤ nq then 7 else 0 := by
        unfold mayT
        rw [if_neg h1, if_neg (by simp), if_neg (by simp [h3]), if_neg (by simp only; omega)]
      have k6 : decide (nq - (baseT b nf : Nat) < 0) = decide (nq < (baseT b nf : Int)) := by rw [decide_eq_decide]; omega
      have k7 : decide (8 ≤ nq - (baseT b nf : Nat)) = decide ((baseT b nf : Int) + 8 ≤ nq) := by rw [decide_eq_decide]; omega
      rw [e0]
      by_cases h6 : nq < (baseT b nf : Int)
      · have k6' : decide (nq < (baseT b nf : Int)) = true := by simp [h6]
        rw [k6'] at k6
        rw [if_pos h6]
        repeat' with_reducible first
        | refine stp ?_ | refine seg_both ?_ ?_ | refine seg_case (fun x h => ?_) (fun h => ?_) | refine seg_gate (fun h => ?_) (fun h => ?_) | refine seg_need ?_ ?_ | refine cond_v (fun h => ?_) (fun h => ?_)
        | refine seg_eval (by simp -dsimp -implicitDefEqProofs [hbl, spRightT, hok, h1', c2, spHas, hm2, hnf2, hf16, hf16', hle, hat, hwb, h3, k4, k5, hws, k6, Int.toNat_natCast]; rfl) ?_
        all_goals first
          | omega
          | exact hok
          | exact post_fin rfl rfl ⟨[], [], rfl, rfl, rfl, rfl⟩
          | trace_state
      · have k6' : decide (nq < (baseT b nf : Int)) = false := by simp [h6]
        rw [k6'] at k6
        rw [if_neg h6]
        by_cases h7 : (baseT b nf : Int) + 8 ≤ nq
        · have k7' : decide ((baseT b nf : Int) + 8 ≤ nq) = true := by simp [h7]
          rw [k7'] at k7
          rw [if_pos h7]
          repeat' with_reducible first
          | refine stp ?_ | refine seg_both ?_ ?_ | refine seg_case (fun x h => ?_) (fun h => ?_) | refine seg_gate (fun h => ?_) (fun h => ?_) | refine seg_need ?_ ?_ | refine cond_v (fun h => ?_) (fun h => ?_)
          | refine seg_eval (by simp -dsimp -implicitDefEqProofs [hbl, spRightT, hok, h1', c2, spHas, hm2, hnf2, hf16, hf16', hle, hat, hwb, h3, k4, k5, hws, k6, k7, Int.toNat_natCast]; rfl) ?_
          all_goals first
            | omega
            | exact hok
            | exact post_fin rfl rfl ⟨[], [], rfl, rfl, rfl, rfl⟩
            | trace_state
        · have k7' : decide ((baseT b nf : Int) + 8 ≤ nq) = false := by simp [h7]
          rw [k7'] at k7
          rw [if_neg h7]
          repeat' with_reducible first
          | refine stp ?_ | refine seg_both ?_ ?_ | refine seg_case (fun x h => ?_) (fun h => ?_) | refine seg_gate (fun h => ?_) (fun h => ?_) | refine seg_need ?_ ?_ | refine cond_v (fun h => ?_) (fun h => ?_)
          | refine seg_eval (by simp -dsimp -implicitDefEqProofs [hbl, spRightT, hok, h1', c2, spHas, hm2, hnf2, hf16, hf16', hle, hat, hwb, h3, k4, k5, hws, k6, k7, Int.toNat_natCast]; rfl) ?_
          all_goals first
            | omega
            | exact hok
            | exact post_fin rfl rfl ⟨[], [], rfl, rfl, rfl, rfl⟩
            | trace_state
  · have c2 : (nv != v) = true := by simp [h2]
    have e : mayT ⟨v, m, b, l⟩ ⟨nv, nf, nq⟩ = 11 := by simp [mayT, h1', h2]
    rw [e]
    repeat' with_reducible first
    | refine stp ?_ | refine seg_both ?_ ?_ | refine seg_case (fun x h => ?_) (fun h => ?_) | refine seg_gate (fun h => ?_) (fun h => ?_) | refine seg_need ?_ ?_ | refine cond_v (fun h => ?_) (fun h => ?_)
    | refine seg_eval (by simp -dsimp -implicitDefEqProofs [hbl, spRightT, hok, h1', c2]; rfl) ?_
    all_goals first
      | exact hok
      | exact post_fin rfl rfl ⟨[], [], rfl, rfl, rfl, rfl⟩
      | trace_state

noncomputable def spOwnT : Spec
  | [x], [] => match un avTb x with
    | some t => open Classical in if okTb t then some (.ret (.agg (tc t.v (t.m : Nat) t.b (.osl 0))), [.arr 60 7 (t.os.map avOp)]) else none
    | _ => none
  | _, _ => none
set_option maxHeartbeats 16000000 in
theorem ownT_ok : CallOk Try.prog 22 spOwnT := by
  refine ok_22 (Env.put_ok [] (Env.put_ok [true] (Env.none_ok _) cloneOp_ok) cloneF_ok) spOwnT fun args mem r mem1 h => ?_
  unfold spOwnT at h
  split at h
  case h_2 => cases h
  rename_i x
  split at h
  case h_2 => cases h
  rename_i t ht
  split at h
  case isFalse => cases h
  rename_i hok
  cases h
  rw [un_some ht]
  obtain ⟨v, m, b, l⟩ := t
  obtain ⟨hm, hb, hll, hol⟩ := id hok
  simp only at hm hb hll hol ⊢
  have hbl := hb.1
  have hsh := ops_shaped l
  have hll2 : l.length ≤ 100000000 := by omega
  simp only [avTb]
  unfold ac_22
  repeat' with_reducible first
  | refine stp ?_ | refine seg_both ?_ ?_ | refine seg_case (fun x h => ?_) (fun h => ?_) | refine seg_gate (fun h => ?_) (fun h => ?_) | refine seg_need ?_ ?_ | refine cond_v (fun h => ?_) (fun h => ?_)
  | refine seg_eval (by simp -dsimp -implicitDefEqProofs [hbl, hsh, hll2, spCloneOp]; rfl) ?_
  refine wp_loopR (fun ts mm => ts = [(1, .ptr 0 0 0), (2, .ptr 1 0 0)] ∧ mm = [.var (tc v (m : Nat) b (.osl 2)), .var (tc 0 0 zV (.v (.slice none 0 0))), .arr 60 7 (l.map avOp)])
    (fun j ts mm => ∃ i : Nat, i + j = l.length ∧ ts = [(1, .ptr 0 0 0), (2, .ptr 1 0 0), (10, .osl 2), (11, .v (.int .i64 l.length)), (12, .v (.int .i64 i))] ∧
      mm = [.var (tc v (m : Nat) b (.osl 2)), .var (tc 0 0 zV (.v (.slice none 0 0))), .arr 60 7 (l.map avOp)]) l.length ?_ ?_ ?_
  · refine ⟨[], [0, 1, 2], by simp, by simp, 0, by omega, by simp, by simp⟩
  · rintro W hW j ts mm ⟨i, hi, rfl, rfl⟩
    by_cases hlt : i < l.length
    · obtain ⟨o, ho⟩ : ∃ o, l[i]? = some o := ⟨_, List.getElem?_eq_getElem (by omega)⟩
      have hd : decide ((i : Int) < (l.length : Int)) = true := by rw [decide_eq_true_eq]; omega
      have hd2 : decide (i < l.length) = true := by simp [hlt]
      have hil2 : (i : Int) < (l.length : Int) := by omega
      have h64 : IntKind.wrap .i64 ((i : Int) + 1) = ((i + 1 : Nat) : Int) := by rw [IntWalk.i64_in _ (by omega)]; rfl
      obtain ⟨how, hoq, hoc1, hoc2⟩ := hol o (List.mem_of_getElem? ho)
      have hl1 := hoc1.1
      have hl2 := hoc2.1
      have hget : l[i]'hlt = o := (List.getElem?_eq_some_iff.1 ho).2
      have hset : (l.map avOp).set i (avOp o) = l.map avOp := by
        apply List.ext_getElem?
        intro k
        rw [List.getElem?_set]
        by_cases hk : i = k
        · subst hk; rw [if_pos rfl]; simp [hlt, hget]
        · rw [if_neg hk]
      obtain ⟨f, q, ⟨e, r, d, es, rs⟩⟩ := o
      simp only at hl1 hl2
      simp only [avOp, cOp] at hset
      repeat' with_reducible first
      | refine stm ?_ | refine seg_both ?_ ?_ | refine seg_case (fun x h => ?_) (fun h => ?_) | refine seg_gate (fun h => ?_) (fun h => ?_) | refine seg_need ?_ ?_ | refine cond_v (fun h => ?_) (fun h => ?_)
      | refine seg_eval (by simp -dsimp -implicitDefEqProofs [avOp, cOp, hbl, hd, hd2, hil2, hlt, ho, hget]; rfl) ?_
      refine wp_drawsR (fun ts mm => ts = [(1, .ptr 0 0 0), (2, .ptr 1 0 0), (3, .v (.int .i64 i)), (4, .ptr 3 0 0), (10, .osl 2), (11, .v (.int .i64 l.length)), (12, .v (.int .i64 i))] ∧
        mm = [.var (tc v (m : Nat) b (.osl 2)), .var (tc 0 0 zV (.v (.slice none 0 0))), .arr 60 7 (l.map avOp), .var [.v (.int .u8 (f : Nat)), .v (.int .i64 q), .v (.bool e), .v (.bool r), .v (.bool d), .fsl 2 (es.map avBa), .fsl 2 (rs.map avBa)]]) ?_ ?_
      · intro W2 hW2
        repeat' with_reducible first
        | refine stp ?_ | refine seg_both ?_ ?_ | refine seg_case (fun x h => ?_) (fun h => ?_) | refine seg_gate (fun h => ?_) (fun h => ?_) | refine seg_need ?_ ?_ | refine cond_v (fun h => ?_) (fun h => ?_)
        | refine seg_eval (by simp -dsimp -implicitDefEqProofs [spCloneF, avBas, hl1, hl2, avOp, cOp, hbl]; rfl) ?_
        all_goals first
          | omega
          | exact hW2 _ _ ⟨[], [0, 1, 2, 3], by simp, by simp, by simp, by simp⟩
          | trace_state
      · rintro ts mm ⟨rfl, rfl⟩
        repeat' with_reducible first
        | refine stp ?_ | refine seg_both ?_ ?_ | refine seg_case (fun x h => ?_) (fun h => ?_) | refine seg_gate (fun h => ?_) (fun h => ?_) | refine seg_need ?_ ?_ | refine cond_v (fun h => ?_) (fun h => ?_)
        | refine seg_eval (by simp -dsimp -implicitDefEqProofs [avOp, cOp, hbl, hd, hd2, hil2, hlt, ho, hget, hset, h64]; rfl) ?_
        all_goals first
          | omega
          | exact ⟨j - 1, by omega, [], [0, 1, 2], by simp, by simp, i + 1, by omega, by simp, by simp⟩
          | trace_state
    · have hd : decide ((i : Int) < (l.length : Int)) = false := by rw [decide_eq_false_iff_not]; omega
      have hd2 : decide (i < l.length) = false := by simp [hlt]
      repeat' with_reducible first
      | refine stp ?_ | refine seg_both ?_ ?_ | refine seg_case (fun x h => ?_) (fun h => ?_) | refine seg_gate (fun h => ?_) (fun h => ?_) | refine seg_need ?_ ?_ | refine cond_v (fun h => ?_) (fun h => ?_)
      | refine seg_eval (by simp -dsimp -implicitDefEqProofs [hd, hd2]; rfl) ?_
      all_goals first
        | omega
        | exact hW _ _ ⟨by simp, by simp⟩
        | trace_state
  · rintro ts mm ⟨rfl, rfl⟩
    repeat' with_reducible first
    | refine stp ?_ | refine seg_both ?_ ?_ | refine seg_case (fun x h => ?_) (fun h => ?_) | refine seg_gate (fun h => ?_) (fun h => ?_) | refine seg_need ?_ ?_ | refine cond_v (fun h => ?_) (fun h => ?_)
    | refine seg_eval (by simp -dsimp -implicitDefEqProofs [hbl, zV_length]; rfl) ?_
    all_goals first
      | omega
      | (refine post_fin (vs := [.agg (tc v (m : Nat) b (.osl 2))]) (by simp [rs_22, hbl]) rfl ⟨[], [2], ?_, ?_, ?_, ?_⟩ <;> simp)
      | trace_state
end Go.Proofs.Ytkbgndebfcjojaa.Am
