/-
  A TABLE THAT MAY BE, on both sides.
-/
import Derived.Test.YtkbgndebfcjojaaZT1
namespace Go.Proofs.Ytkbgndebfcjojaa.Am
set_option linter.unusedSimpArgs false
set_option linter.unusedVariables false
open Go Go.Proofs
attribute [local irreducible] wpA
attribute [-simp] splice

structure Tb where
  v : Int
  m : Nat
  b : List Nat
  os : List Op
def zTb : Tb := ⟨0, 0, zV, []⟩
def avTb (t : Tb) : AV := .agg (tc t.v (t.m : Nat) t.b (.fsl 7 (t.os.map avOp)))
def i64r (q : Int) : Prop := -9223372036854775808 ≤ q ∧ q ≤ 9223372036854775807
def wOp (o : Op) : Prop := o.f < 256 ∧ i64r o.q ∧ okCs o.c
def okTb (t : Tb) : Prop := t.m < 65536 ∧ okV t.b ∧ t.os.length ≤ 1000000 ∧ ∀ o ∈ t.os, wOp o
/-- Tables whose base has sixteen numbers, as cells. -/
theorem tb_inj {x y : Tb} (h : avTb x = avTb y) : x = y := by
  obtain ⟨v, m, b, os⟩ := x; obtain ⟨v', m', b', os'⟩ := y
  simp only [avTb, AV.agg.injEq] at h
  have hl : b.length = b'.length := by
    have := congrArg List.length h
    simp [tc, vc_length] at this
    exact this
  obtain ⟨h1, h2, h3, h4⟩ := tc_inj h hl
  simp only [AV.fsl.injEq, true_and] at h4
  have h2 : m = m' := by omega
  rw [h1, h2, h3, map_avOp h4]
theorem un_tb (v : Int) (m : Nat) (b : List Nat) (os : List Op) : un avTb (.agg (tc v (m : Nat) b (.fsl 7 (os.map avOp)))) = some ⟨v, m, b, os⟩ := un_av (av := avTb) (fun _ _ h => tb_inj h) ⟨v, m, b, os⟩
attribute [simp] un_tb

/-! ### What may be -/
def baseT (b : List Nat) (f : Nat) : Nat := match b[f]? with
  | some n => n
  | none => 0
noncomputable def rightO (m : Nat) (b : List Nat) (o : Op) : Bool :=
  hasS m o.f && (decide ((baseT b o.f : Int) ≤ o.q) && (decide (o.q < (baseT b o.f : Int) + 8) && (decide (o.q < 1000) && (!(decide (o.q = (baseT b o.f : Int)) && o.c.d) && (soundB o.c.es && soundB o.c.rs)))))
def badV (m : Nat) (b : List Nat) (i : Nat) : Bool := decide (1000 < baseT b i) || (decide (0 < baseT b i) && !hasS m i)
def rightV (m : Nat) (b : List Nat) : Bool := (List.range 16).all fun i => !badV m b i
def upL (l : List Op) : Prop := ∀ (i : Nat) (p o : Op), l[i]? = some p → l[i + 1]? = some o → keyOp p < keyOp o
open Classical in
noncomputable def rightL (m : Nat) (b : List Nat) (l : List Op) : Bool := decide ((∀ o ∈ l, rightO m b o = true) ∧ upL l)
noncomputable def rightT (t : Tb) : Bool := decide (0 ≤ t.v ∧ t.v ≤ 1000) && (rightV t.m t.b && rightL t.m t.b t.os)
theorem base_at {b : List Nat} {f : Nat} (hb : okV b) (hf : f < 16) : b[f]? = some (baseT b f) ∧ baseT b f < 65536 := by
  have hl : f < b.length := by rw [hb.1]; exact hf
  have : b[f]? = some b[f] := List.getElem?_eq_getElem hl
  unfold baseT
  rw [this]
  exact ⟨rfl, hb.2 _ (List.getElem_mem _)⟩
/-- One that may be open. -/
theorem rightO_iff {m : Nat} {b : List Nat} {o : Op} : rightO m b o = true ↔ hasS m o.f = true ∧ (baseT b o.f : Int) ≤ o.q ∧ o.q < (baseT b o.f : Int) + 8 ∧ o.q < 1000 ∧ ¬ (o.q = (baseT b o.f : Int) ∧ o.c.d = true) ∧ soundB o.c.es = true ∧ soundB o.c.rs = true := by
  simp only [rightO, Bool.and_eq_true, decide_eq_true_eq, Bool.not_eq_true', Bool.and_eq_false_iff, decide_eq_false_iff_not]
  refine and_congr_right fun _ => and_congr_right fun _ => and_congr_right fun _ => and_congr_right fun _ => and_congr_left fun _ => ?_
  constructor
  · rintro (h | h) ⟨h1, h2⟩
    · exact h h1
    · rw [h] at h2; cases h2
  · intro h
    by_cases h1 : o.q = (baseT b o.f : Int)
    · exact .inr (by cases hd : o.c.d; rfl; exact absurd ⟨h1, hd⟩ h)
    · exact .inl h1
theorem right_ok {m : Nat} {b : List Nat} {o : Op} (hm : m < 65536) (h : rightO m b o = true) : okOp o := by
  obtain ⟨h1, h2, h3, h4, _⟩ := rightO_iff.1 h
  have := has_lt hm h1
  exact ⟨by omega, by omega, by omega⟩

theorem far_ok {q : Int} {n : Nat} (hq : i64r q) (hn : n < 65536) : ((n : Int) ≤ q → IntKind.wrap .i64 (q - (n : Int)) = q - (n : Int)) ∧ (q < (n : Int) → IntKind.wrap .i64 (q - (n : Int)) < 0 ∨ 8 ≤ IntKind.wrap .i64 (q - (n : Int))) := by
  unfold i64r at hq
  rw [IntKind.wrap_i64]
  omega
noncomputable def spRightO : Spec := sp2 avTb avOp (fun t o => okTb t ∧ wOp o) fun t o => .v (.bool (rightO t.m t.b o))
set_option maxHeartbeats 8000000 in
theorem rightO_ok : CallOk Try.prog 34 spRightO := by
  refine ok_34 (Env.put_ok [] (Env.put_ok [] (Env.none_ok _) has_ok) sound_ok) spRightO (wb_sp2 ?_)
  rintro ⟨v, m, b, os⟩ ⟨f, q, ⟨e, r, d, es, rs⟩⟩ ⟨⟨hm, hb, _, _⟩, hf, hq, hes, hrs⟩
  simp only at hm hb hf hq hes hrs ⊢
  have hm2 : (m : Int) < 65536 := by omega
  have hf2 : (f : Int) < 256 := by omega
  have hbl := hb.1
  simp only [avTb, avOp, cOp]
  unfold ac_34
  cases hh : hasS m f
  · have e : rightO m b ⟨f, q, ⟨e, r, d, es, rs⟩⟩ = false := by simp [rightO, hh]
    rw [e]
    repeat' with_reducible first
    | refine stp ?_ | refine seg_both ?_ ?_ | refine seg_case (fun x h => ?_) (fun h => ?_) | refine seg_gate (fun h => ?_) (fun h => ?_) | refine seg_need ?_ ?_ | refine cond_v (fun h => ?_) (fun h => ?_)
    | refine seg_eval (by simp -dsimp -implicitDefEqProofs [hm2, hf2, hbl, hh, spHas, Int.toNat_natCast]; rfl) ?_
    all_goals first
      | omega
      | exact post_fin rfl rfl ⟨[], [], rfl, rfl, rfl, rfl⟩
      | trace_state
  · have hf16 := has_lt hm hh
    have hf16' : (f : Int) < 16 := by omega
    have hle : 2 + f ≤ 18 := by omega
    obtain ⟨hba, hbn⟩ := base_at hb hf16
    have hat := tc_at (v := v) (m := (m : Int)) (x := .fsl 7 (os.map avOp)) hba
    have hwb : IntKind.wrap .i64 ((baseT b f : Nat) : Int) = ((baseT b f : Nat) : Int) := IntWalk.i64_in _ (by omega)
    have far := far_ok hq hbn
    obtain ⟨n, hn⟩ : ∃ n, n = baseT b f := ⟨_, rfl⟩
    rw [← hn] at hat hwb hbn far
    obtain ⟨w, hw⟩ : ∃ w, w = IntKind.wrap .i64 (q - (n : Int)) := ⟨_, rfl⟩
    rw [← hw] at far
    have he : rightO m b ⟨f, q, ⟨e, r, d, es, rs⟩⟩ = (decide (0 ≤ w) && (decide (w < 8) && (decide (q < 1000) && (!((w == 0) && d) && (soundB es && soundB rs))))) := by
      simp only [rightO, hh, Bool.true_and, ← hn]
      by_cases hnq : (n : Int) ≤ q
      · rw [far.1 hnq]
        have e1 : decide (0 ≤ q - (n : Int)) = true := by rw [decide_eq_true_eq]; omega
        have e2 : decide ((n : Int) ≤ q) = true := by rw [decide_eq_true_eq]; omega
        have e3 : decide (q - (n : Int) < 8) = decide (q < (n : Int) + 8) := by rw [decide_eq_decide]; omega
        have e4 : (q - (n : Int) == 0) = decide (q = (n : Int)) := by rw [Bool.eq_iff_iff]; simp; omega
        rw [e1, e2, e3, e4]
      · have e2 : decide ((n : Int) ≤ q) = false := by rw [decide_eq_false_iff_not]; omega
        rw [e2]
        rcases far.2 (by omega) with h | h
        · have e1 : decide (0 ≤ w) = false := by rw [decide_eq_false_iff_not]; omega
          rw [e1]; rfl
        · have e1 : decide (w < 8) = false := by rw [decide_eq_false_iff_not]; omega
          rw [e1]; simp
    rw [he]
    have hw := hw.symm
    generalize hb1 : decide (0 ≤ w) = b1
    generalize hb2 : decide (w < 8) = b2
    generalize hb3 : decide (q < 1000) = b3
    generalize hb4 : (w == 0) = b4
    generalize hs1 : soundB es = s1
    generalize hs2 : soundB rs = s2
    have hc : b1 = false ∨ (b1 = true ∧ b2 = false) ∨ (b1 = true ∧ b2 = true ∧ b3 = false) ∨ (b1 = true ∧ b2 = true ∧ b3 = true ∧ b4 = true ∧ d = true) ∨ (b1 = true ∧ b2 = true ∧ b3 = true ∧ b4 = true ∧ d = false ∧ s1 = false) ∨ (b1 = true ∧ b2 = true ∧ b3 = true ∧ b4 = true ∧ d = false ∧ s1 = true) ∨
        (b1 = true ∧ b2 = true ∧ b3 = true ∧ b4 = false ∧ s1 = false) ∨ (b1 = true ∧ b2 = true ∧ b3 = true ∧ b4 = false ∧ s1 = true) := by
      clear hb1 hb2 hb3 hb4 hs1 hs2 he
      cases b1 <;> cases b2 <;> cases b3 <;> cases b4 <;> cases d <;> cases s1 <;> simp
    rcases hc with rfl | ⟨rfl, rfl⟩ | ⟨rfl, rfl, rfl⟩ | ⟨rfl, rfl, rfl, rfl, rfl⟩ | ⟨rfl, rfl, rfl, rfl, rfl, rfl⟩ | ⟨rfl, rfl, rfl, rfl, rfl, rfl⟩ | ⟨rfl, rfl, rfl, rfl, rfl⟩ | ⟨rfl, rfl, rfl, rfl, rfl⟩
    all_goals
      repeat' with_reducible first
      | refine stp ?_ | refine seg_both ?_ ?_ | refine seg_case (fun x h => ?_) (fun h => ?_) | refine seg_gate (fun h => ?_) (fun h => ?_) | refine seg_need ?_ ?_ | refine cond_v (fun h => ?_) (fun h => ?_)
      | refine seg_eval (by simp -dsimp -implicitDefEqProofs [hm2, hf2, hf16', hf16, hle, hbl, hh, hat, hwb, hw, hb1, hb2, hb3, hb4, hs1, hs2, spHas, spSound, avBas, hes, hrs, Int.toNat_natCast]; rfl) ?_
    all_goals first
      | omega
      | exact post_fin rfl rfl ⟨[], [], rfl, rfl, rfl, rfl⟩
      | trace_state
set_option maxHeartbeats 8000000 in
theorem rightOR_ok : CallOk Try.prog 36 spRightO := by
  refine ok_36 (Env.put_ok [] (Env.put_ok [] (Env.none_ok _) hasR_ok) soundR_ok) spRightO (wb_sp2 ?_)
  rintro ⟨v, m, b, os⟩ ⟨f, q, ⟨e, r, d, es, rs⟩⟩ ⟨⟨hm, hb, _, _⟩, hf, hq, hes, hrs⟩
  simp only at hm hb hf hq hes hrs ⊢
  have hm2 : (m : Int) < 65536 := by omega
  have hf2 : (f : Int) < 256 := by omega
  have hbl := hb.1
  simp only [avTb, avOp, cOp]
  unfold ac_36
  cases hh : hasS m f
  · have e : rightO m b ⟨f, q, ⟨e, r, d, es, rs⟩⟩ = false := by simp [rightO, hh]
    rw [e]
    repeat' with_reducible first
    | refine stp ?_ | refine seg_both ?_ ?_ | refine seg_case (fun x h => ?_) (fun h => ?_) | refine seg_gate (fun h => ?_) (fun h => ?_) | refine seg_need ?_ ?_ | refine cond_v (fun h => ?_) (fun h => ?_)
    | refine seg_eval (by simp -dsimp -implicitDefEqProofs [hm2, hf2, hbl, hh, spHas, Int.toNat_natCast]; rfl) ?_
    all_goals first
      | omega
      | exact post_fin rfl rfl ⟨[], [], rfl, rfl, rfl, rfl⟩
      | trace_state
  · have hf16 := has_lt hm hh
    have hf16' : (f : Int) < 16 := by omega
    have hle : 2 + f ≤ 18 := by omega
    obtain ⟨hba, hbn⟩ := base_at hb hf16
    have hat := tc_at (v := v) (m := (m : Int)) (x := .fsl 7 (os.map avOp)) hba
    have hwb : IntKind.wrap .i64 ((baseT b f : Nat) : Int) = ((baseT b f : Nat) : Int) := IntWalk.i64_in _ (by omega)
    have hw8 : IntKind.wrap .i64 ((baseT b f : Nat) + 8 : Int) = ((baseT b f : Nat) + 8 : Int) := IntWalk.i64_in _ (by omega)
    obtain ⟨n, hn⟩ : ∃ n, n = baseT b f := ⟨_, rfl⟩
    rw [← hn] at hat hwb hbn hw8
    have he : rightO m b ⟨f, q, ⟨e, r, d, es, rs⟩⟩ = (!decide (q < (n : Int)) && (!decide ((n : Int) + 8 ≤ q) && (!decide (1000 ≤ q) && (!((q == (n : Int)) && d) && (soundB es && soundB rs))))) := by
      simp only [rightO, hh, Bool.true_and, ← hn]
      congr 1
      · rw [Bool.eq_iff_iff]; simp
      · congr 1
        · rw [Bool.eq_iff_iff]; simp
        · congr 1
          · rw [Bool.eq_iff_iff]; simp
    rw [he]
    generalize hb1 : decide (q < (n : Int)) = b1
    generalize hb2 : decide ((n : Int) + 8 ≤ q) = b2
    generalize hb3 : decide (1000 ≤ q) = b3
    generalize hb4 : (q == (n : Int)) = b4
    generalize hs1 : soundB es = s1
    generalize hs2 : soundB rs = s2
    have hc : b1 = true ∨ (b1 = false ∧ b2 = true) ∨ (b1 = false ∧ b2 = false ∧ b3 = true) ∨ (b1 = false ∧ b2 = false ∧ b3 = false ∧ b4 = true ∧ d = true) ∨ (b1 = false ∧ b2 = false ∧ b3 = false ∧ b4 = true ∧ d = false ∧ s1 = false) ∨ (b1 = false ∧ b2 = false ∧ b3 = false ∧ b4 = true ∧ d = false ∧ s1 = true) ∨
        (b1 = false ∧ b2 = false ∧ b3 = false ∧ b4 = false ∧ s1 = false) ∨ (b1 = false ∧ b2 = false ∧ b3 = false ∧ b4 = false ∧ s1 = true) := by
      clear hb1 hb2 hb3 hb4 hs1 hs2 he
      cases b1 <;> cases b2 <;> cases b3 <;> cases b4 <;> cases d <;> cases s1 <;> simp
    rcases hc with rfl | ⟨rfl, rfl⟩ | ⟨rfl, rfl, rfl⟩ | ⟨rfl, rfl, rfl, rfl, rfl⟩ | ⟨rfl, rfl, rfl, rfl, rfl, rfl⟩ | ⟨rfl, rfl, rfl, rfl, rfl, rfl⟩ | ⟨rfl, rfl, rfl, rfl, rfl⟩ | ⟨rfl, rfl, rfl, rfl, rfl⟩
    all_goals
      repeat' with_reducible first
      | refine stp ?_ | refine seg_both ?_ ?_ | refine seg_case (fun x h => ?_) (fun h => ?_) | refine seg_gate (fun h => ?_) (fun h => ?_) | refine seg_need ?_ ?_ | refine cond_v (fun h => ?_) (fun h => ?_)
      | refine seg_eval (by simp -dsimp -implicitDefEqProofs [hm2, hf2, hf16', hf16, hle, hbl, hh, hat, hwb, hw8, hb1, hb2, hb3, hb4, hs1, hs2, spHas, spSound, avBas, hes, hrs, Int.toNat_natCast]; rfl) ?_
    all_goals first
      | omega
      | exact post_fin rfl rfl ⟨[], [], rfl, rfl, rfl, rfl⟩
      | trace_state
end Go.Proofs.Ytkbgndebfcjojaa.Am
