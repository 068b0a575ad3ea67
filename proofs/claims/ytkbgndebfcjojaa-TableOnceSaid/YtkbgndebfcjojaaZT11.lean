/-
  THE SAME BALLOTS, CASES AND TABLES.
-/
import Derived.Test.YtkbgndebfcjojaaZT10
import Derived.Test.YtkbgndebfcjojaaZCodeC
namespace Go.Proofs.Ytkbgndebfcjojaa.Am
set_option linter.unusedSimpArgs false
set_option linter.unusedVariables false
open Go Go.Proofs
attribute [local irreducible] wpA
attribute [-simp] splice

open Classical in
noncomputable def same {α : Type} (a b : α) : Bool := decide (a = b)
open Classical in
theorem same_iff {α : Type} {a b : α} : same a b = true ↔ a = b := by unfold same; exact decide_eq_true_iff
theorem same_no {α : Type} {a b : α} (h : a ≠ b) : same a b = false := by
  cases e : same a b
  · rfl
  · exact absurd (same_iff.1 e) h
theorem same_self {α : Type} (a : α) : same a a = true := same_iff.2 rfl
theorem eqCells_si (a b : ByteArray) (i j : Nat) : eqCells [.s, .i] [.v (.string a), .v (.int .u16 i)] [.v (.string b), .v (.int .u16 j)] = some (a == b && (i : Int) == (j : Int)) := by simp [eqCells]
theorem eqCells_is (a b : ByteArray) (i j : Int) : eqCells [.i, .s] [.v (.int .i64 i), .v (.string a)] [.v (.int .i64 j), .v (.string b)] = some (i == j && a == b) := by simp [eqCells]

theorem int_nat {a b : Nat} : ((a : Int) == (b : Int)) = (a == b) := by rw [Bool.eq_iff_iff]; simp
theorem nand_or {a b : Bool} : (!(!a || !b)) = (a && b) := by cases a <;> simp
theorem ba_eq {x y : Ba} : (x.1 == y.1 && (x.2 : Int) == (y.2 : Int)) = same x y := by
  rw [Bool.eq_iff_iff, same_iff]
  simp only [Bool.and_eq_true, beq_bytes, decide_eq_true_eq, beq_iff_eq]
  constructor
  · rintro ⟨h1, h2⟩; exact Prod.ext h1 (by omega)
  · rintro rfl; exact ⟨rfl, rfl⟩
theorem ou_eq {x y : Ou} : (x.1 == y.1 && x.2 == y.2) = same x y := by
  rw [Bool.eq_iff_iff, same_iff]
  simp only [Bool.and_eq_true, beq_bytes, decide_eq_true_eq, beq_iff_eq]
  constructor
  · rintro ⟨h1, h2⟩; exact Prod.ext h1 h2
  · rintro rfl; exact ⟨rfl, rfl⟩
noncomputable def spBallots : Spec := sp2 avBas avBas (fun a b => a.length ≤ 1000001 ∧ b.length ≤ 1000001) fun a b => .v (.bool (same a b))
set_option maxHeartbeats 8000000 in
theorem ballots_ok : CallOk Try.prog 62 spBallots := by
  refine ok_62 (Env.none_ok _) spBallots (wb_sp2 ?_)
  rintro l l' ⟨hll, hll'⟩
  simp only [avBas]
  unfold ac_62
  by_cases hl : l.length = l'.length
  · have hl2 : (l.length == l'.length) = true := by simp [hl]
    have hl3 : (l.length != l'.length) = false := by simp [hl]
    have hl4 : ((l.length : Int) != (l'.length : Int)) = false := by simp [hl]
    repeat' with_reducible first
    | refine stp ?_ | refine seg_both ?_ ?_ | refine seg_case (fun x h => ?_) (fun h => ?_) | refine seg_gate (fun h => ?_) (fun h => ?_) | refine seg_need ?_ ?_ | refine cond_v (fun h => ?_) (fun h => ?_)
    | refine seg_eval (by simp -dsimp -implicitDefEqProofs [hl2, hl3, hl4]; rfl) ?_

    refine wp_loop' (fun j ts mm => ∃ i : Nat, i + j = l.length ∧ l.take i = l'.take i ∧ ts = [(0, .fsl 2 (l.map avBa)), (1, .fsl 2 (l'.map avBa)), (5, .v (.int .i64 i))] ∧ mm = []) l.length ?_ ?_
    · exact ⟨[], [], by simp, by simp, 0, by omega, by simp, by simp, by simp⟩
    · rintro j ts mm ⟨i, hi, hlo, rfl, rfl⟩
      by_cases hlt : i < l.length
      · obtain ⟨x, hx⟩ : ∃ x, l[i]? = some x := ⟨_, List.getElem?_eq_getElem (by omega)⟩
        obtain ⟨y, hy⟩ : ∃ y, l'[i]? = some y := ⟨_, List.getElem?_eq_getElem (by omega)⟩
        have hd : decide ((i : Int) < (l.length : Int)) = true := by rw [decide_eq_true_eq]; omega
        have hd2 : decide (i < l.length) = true := by simp [hlt]
        have h64 : IntKind.wrap .i64 ((i : Int) + 1) = ((i + 1 : Nat) : Int) := by rw [IntWalk.i64_in _ (by omega)]; rfl
        have heq := ba_eq (x := x) (y := y)
        by_cases hxy : x = y
        · have hst : l.take (i + 1) = l'.take (i + 1) := by rw [take_more hx, take_more hy, hlo, hxy]
          rw [same_iff.2 hxy] at heq
          obtain ⟨xa, xb⟩ := x
          obtain ⟨ya, yb⟩ := y
          simp only at heq
          have heq2 := heq
          rw [int_nat, ← nand_or, Bool.not_eq_eq_eq_not] at heq2
          simp only [Bool.not_true, Bool.not_false] at heq2
          repeat' with_reducible first
          | refine stp ?_ | refine seg_both ?_ ?_ | refine seg_case (fun x h => ?_) (fun h => ?_) | refine seg_gate (fun h => ?_) (fun h => ?_) | refine seg_need ?_ ?_ | refine cond_v (fun h => ?_) (fun h => ?_)
          | refine seg_eval (by simp -dsimp -implicitDefEqProofs [avBa, hd, hd2, h64, hx, hy, eqCells_si, heq, heq2]; rfl) ?_
          all_goals first
            | omega
            | exact ⟨j - 1, by omega, [], [], by simp, by simp, i + 1, by omega, hst, by simp, by simp⟩
            | trace_state
        · rw [same_no hxy] at heq
          rw [same_no fun h => hxy (by rw [h, hy] at hx; cases hx; rfl)]
          obtain ⟨xa, xb⟩ := x
          obtain ⟨ya, yb⟩ := y
          simp only at heq
          have heq2 := heq
          rw [int_nat, ← nand_or, Bool.not_eq_eq_eq_not] at heq2
          simp only [Bool.not_true, Bool.not_false] at heq2
          repeat' with_reducible first
          | refine stp ?_ | refine seg_both ?_ ?_ | refine seg_case (fun x h => ?_) (fun h => ?_) | refine seg_gate (fun h => ?_) (fun h => ?_) | refine seg_need ?_ ?_ | refine cond_v (fun h => ?_) (fun h => ?_)
          | refine seg_eval (by simp -dsimp -implicitDefEqProofs [avBa, hd, hd2, h64, hx, hy, eqCells_si, heq, heq2]; rfl) ?_
          all_goals first
            | omega
            | exact post_fin rfl rfl ⟨[], [], rfl, rfl, rfl, rfl⟩
            | trace_state
      · have hd : decide ((i : Int) < (l.length : Int)) = false := by rw [decide_eq_false_iff_not]; omega
        have hd2 : decide (i < l.length) = false := by simp [hlt]
        have : l = l' := by rw [← List.take_of_length_le (l := l) (i := i) (by omega), ← List.take_of_length_le (l := l') (i := i) (by omega)]; exact hlo
        rw [same_iff.2 this]
        repeat' with_reducible first
        | refine stp ?_ | refine seg_both ?_ ?_ | refine seg_case (fun x h => ?_) (fun h => ?_) | refine seg_gate (fun h => ?_) (fun h => ?_) | refine seg_need ?_ ?_ | refine cond_v (fun h => ?_) (fun h => ?_)
        | refine seg_eval (by simp -dsimp -implicitDefEqProofs [hd, hd2]; rfl) ?_
        all_goals first
          | omega
          | exact post_fin rfl rfl ⟨[], [], rfl, rfl, rfl, rfl⟩
          | trace_state
  · have hl2 : (l.length == l'.length) = false := by simp [hl]
    have hl3 : (l.length != l'.length) = true := by simp [hl]
    have hl4 : ((l.length : Int) != (l'.length : Int)) = true := by simp; omega
    rw [same_no fun h => hl (by rw [h])]
    repeat' with_reducible first
    | refine stp ?_ | refine seg_both ?_ ?_ | refine seg_case (fun x h => ?_) (fun h => ?_) | refine seg_gate (fun h => ?_) (fun h => ?_) | refine seg_need ?_ ?_ | refine cond_v (fun h => ?_) (fun h => ?_)
    | refine seg_eval (by simp -dsimp -implicitDefEqProofs [hl2, hl3, hl4]; rfl) ?_
    all_goals first
      | exact post_fin rfl rfl ⟨[], [], rfl, rfl, rfl, rfl⟩
      | trace_state

noncomputable def spOuts : Spec := sp2 avOus avOus (fun a b => a.length ≤ 1000001 ∧ b.length ≤ 1000001) fun a b => .v (.bool (same a b))
theorem un_ous (l : List Ou) : un avOus (.fsl 2 (l.map avOu)) = some l := un_av (av := avOus) (fun x y h => by simp only [avOus, AV.fsl.injEq, true_and] at h; exact map_avOu h) l
attribute [simp] un_ous
set_option maxHeartbeats 8000000 in
theorem outs_ok : CallOk Try.prog 19 spOuts := by
  refine ok_19 (Env.none_ok _) spOuts (wb_sp2 ?_)
  rintro l l' ⟨hll, hll'⟩
  simp only [avOus]
  unfold ac_19
  by_cases hl : l.length = l'.length
  · have hl2 : (l.length == l'.length) = true := by simp [hl]
    have hl3 : (l.length != l'.length) = false := by simp [hl]
    have hl4 : ((l.length : Int) != (l'.length : Int)) = false := by simp [hl]
    repeat' with_reducible first
    | refine stp ?_ | refine seg_both ?_ ?_ | refine seg_case (fun x h => ?_) (fun h => ?_) | refine seg_gate (fun h => ?_) (fun h => ?_) | refine seg_need ?_ ?_ | refine cond_v (fun h => ?_) (fun h => ?_)
    | refine seg_eval (by simp -dsimp -implicitDefEqProofs [hl2, hl3, hl4]; rfl) ?_

    refine wp_loop' (fun j ts mm => ∃ i : Nat, i + j = l.length ∧ l.take i = l'.take i ∧ ts = [(1, .fsl 2 (l'.map avOu)), (12, .fsl 2 (l.map avOu)), (13, .v (.int .i64 l.length)), (14, .v (.int .i64 i))] ∧ mm = []) l.length ?_ ?_
    · exact ⟨[], [], by simp, by simp, 0, by omega, by simp, by simp, by simp⟩
    · rintro j ts mm ⟨i, hi, hlo, rfl, rfl⟩
      by_cases hlt : i < l.length
      · obtain ⟨x, hx⟩ : ∃ x, l[i]? = some x := ⟨_, List.getElem?_eq_getElem (by omega)⟩
        obtain ⟨y, hy⟩ : ∃ y, l'[i]? = some y := ⟨_, List.getElem?_eq_getElem (by omega)⟩
        have hd : decide ((i : Int) < (l.length : Int)) = true := by rw [decide_eq_true_eq]; omega
        have hd2 : decide (i < l.length) = true := by simp [hlt]
        have h64 : IntKind.wrap .i64 ((i : Int) + 1) = ((i + 1 : Nat) : Int) := by rw [IntWalk.i64_in _ (by omega)]; rfl
        have heq := ou_eq (x := x) (y := y)
        by_cases hxy : x = y
        · have hst : l.take (i + 1) = l'.take (i + 1) := by rw [take_more hx, take_more hy, hlo, hxy]
          rw [same_iff.2 hxy] at heq
          obtain ⟨xa, xb⟩ := x
          obtain ⟨ya, yb⟩ := y
          simp only at heq
          repeat' with_reducible first
          | refine stp ?_ | refine seg_both ?_ ?_ | refine seg_case (fun x h => ?_) (fun h => ?_) | refine seg_gate (fun h => ?_) (fun h => ?_) | refine seg_need ?_ ?_ | refine cond_v (fun h => ?_) (fun h => ?_)
          | refine seg_eval (by simp -dsimp -implicitDefEqProofs [avOu, hd, hd2, h64, hx, hy, eqCells_is, heq]; rfl) ?_
          all_goals first
            | omega
            | exact ⟨j - 1, by omega, [], [], by simp, by simp, i + 1, by omega, hst, by simp, by simp⟩
            | trace_state
        · rw [same_no hxy] at heq
          rw [same_no fun h => hxy (by rw [h, hy] at hx; cases hx; rfl)]
          obtain ⟨xa, xb⟩ := x
          obtain ⟨ya, yb⟩ := y
          simp only at heq
          repeat' with_reducible first
          | refine stp ?_ | refine seg_both ?_ ?_ | refine seg_case (fun x h => ?_) (fun h => ?_) | refine seg_gate (fun h => ?_) (fun h => ?_) | refine seg_need ?_ ?_ | refine cond_v (fun h => ?_) (fun h => ?_)
          | refine seg_eval (by simp -dsimp -implicitDefEqProofs [avOu, hd, hd2, h64, hx, hy, eqCells_is, heq]; rfl) ?_
          all_goals first
            | omega
            | exact post_fin rfl rfl ⟨[], [], rfl, rfl, rfl, rfl⟩
            | trace_state
      · have hd : decide ((i : Int) < (l.length : Int)) = false := by rw [decide_eq_false_iff_not]; omega
        have hd2 : decide (i < l.length) = false := by simp [hlt]
        have : l = l' := by rw [← List.take_of_length_le (l := l) (i := i) (by omega), ← List.take_of_length_le (l := l') (i := i) (by omega)]; exact hlo
        rw [same_iff.2 this]
        repeat' with_reducible first
        | refine stp ?_ | refine seg_both ?_ ?_ | refine seg_case (fun x h => ?_) (fun h => ?_) | refine seg_gate (fun h => ?_) (fun h => ?_) | refine seg_need ?_ ?_ | refine cond_v (fun h => ?_) (fun h => ?_)
        | refine seg_eval (by simp -dsimp -implicitDefEqProofs [hd, hd2]; rfl) ?_
        all_goals first
          | omega
          | exact post_fin rfl rfl ⟨[], [], rfl, rfl, rfl, rfl⟩
          | trace_state
  · have hl2 : (l.length == l'.length) = false := by simp [hl]
    have hl3 : (l.length != l'.length) = true := by simp [hl]
    have hl4 : ((l.length : Int) != (l'.length : Int)) = true := by simp; omega
    rw [same_no fun h => hl (by rw [h])]
    repeat' with_reducible first
    | refine stp ?_ | refine seg_both ?_ ?_ | refine seg_case (fun x h => ?_) (fun h => ?_) | refine seg_gate (fun h => ?_) (fun h => ?_) | refine seg_need ?_ ?_ | refine cond_v (fun h => ?_) (fun h => ?_)
    | refine seg_eval (by simp -dsimp -implicitDefEqProofs [hl2, hl3, hl4]; rfl) ?_
    all_goals first
      | exact post_fin rfl rfl ⟨[], [], rfl, rfl, rfl, rfl⟩
      | trace_state

/-! ### Cases and tables -/
noncomputable def spSame7 : Spec := sp2 avCs avCs (fun a b => okCs a ∧ okCs b) fun a b => .v (.bool (same a b))
set_option maxHeartbeats 8000000 in
theorem same7_ok : CallOk Try.prog 37 spSame7 := by
  refine ok_37 (Env.put_ok [] (Env.none_ok _) ballots_ok) spSame7 (wb_sp2 ?_)
  rintro ⟨e, r, d, es, rs⟩ ⟨e', r', d', es', rs'⟩ ⟨⟨⟨h1, _⟩, h2, _⟩, ⟨h3, _⟩, h4, _⟩
  simp only at h1 h2 h3 h4
  have g1 : es.length ≤ 1000001 := by omega
  have g2 : rs.length ≤ 1000001 := by omega
  have g3 : es'.length ≤ 1000001 := by omega
  have g4 : rs'.length ≤ 1000001 := by omega
  have he : same (⟨e, r, d, es, rs⟩ : Cs) ⟨e', r', d', es', rs'⟩ = (e == e' && (r == r' && (d == d' && (same es es' && same rs rs')))) := by
    rw [Bool.eq_iff_iff]
    simp only [same_iff, Bool.and_eq_true, beq_iff_eq, Cs.mk.injEq]
  rw [he]
  simp only [avCs]
  unfold ac_37
  generalize hb1 : (e == e') = b1
  generalize hb2 : (r == r') = b2
  generalize hb3 : (d == d') = b3
  generalize hb4 : same es es' = b4
  generalize hb5 : same rs rs' = b5
  have hc : b1 = false ∨ (b1 = true ∧ b2 = false) ∨ (b1 = true ∧ b2 = true ∧ b3 = false) ∨ (b1 = true ∧ b2 = true ∧ b3 = true ∧ b4 = false) ∨ (b1 = true ∧ b2 = true ∧ b3 = true ∧ b4 = true) := by
    clear hb1 hb2 hb3 hb4 hb5 he
    cases b1 <;> cases b2 <;> cases b3 <;> cases b4 <;> simp
  rcases hc with rfl | ⟨rfl, rfl⟩ | ⟨rfl, rfl, rfl⟩ | ⟨rfl, rfl, rfl, rfl⟩ | ⟨rfl, rfl, rfl, rfl⟩
  all_goals
    repeat' with_reducible first
    | refine stp ?_ | refine seg_both ?_ ?_ | refine seg_case (fun x h => ?_) (fun h => ?_) | refine seg_gate (fun h => ?_) (fun h => ?_) | refine seg_need ?_ ?_ | refine cond_v (fun h => ?_) (fun h => ?_)
    | refine seg_eval (by simp -dsimp -implicitDefEqProofs [hb1, hb2, hb3, hb4, hb5, spBallots, avBas, g1, g2, g3, g4]; rfl) ?_
  all_goals first
    | omega
    | exact post_fin rfl rfl ⟨[], [], rfl, rfl, rfl, rfl⟩
    | trace_state
noncomputable def spSame8 : Spec := sp2 avTb avTb (fun a b => okTb a ∧ okTb b) fun a b => .v (.bool (same a b))
set_option maxHeartbeats 16000000 in
theorem same8_ok : CallOk Try.prog 17 spSame8 := by
  refine ok_17 (Env.put_ok [] (Env.none_ok _) same7_ok) spSame8 (wb_sp2 ?_)
  rintro ⟨v, m, b, l⟩ ⟨v', m', b', l'⟩ ⟨⟨hm, hb, hll, hol⟩, hm', hb', hll', hol'⟩
  simp only at hm hb hll hol hm' hb' hll' hol'
  have hbl := hb.1
  have hbl' := hb'.1
  simp only [avTb]
  unfold ac_17
  by_cases e1 : v = v' ∧ m = m' ∧ b = b' ∧ l.length = l'.length
  · obtain ⟨rfl, rfl, rfl, hl⟩ := e1
    have c1 : (v != v) = false := by simp
    have c2 : (m != m) = false := by simp
    have c2' : ((m : Int) != (m : Int)) = false := by simp
    have c3 : eqV b b = true := eqV_self b
    have hl3 : (l.length != l'.length) = false := by simp [hl]
    have hl4 : ((l.length : Int) != (l'.length : Int)) = false := by simp [hl]
    repeat' with_reducible first
    | refine stp ?_ | refine seg_both ?_ ?_ | refine seg_case (fun x h => ?_) (fun h => ?_) | refine seg_gate (fun h => ?_) (fun h => ?_) | refine seg_need ?_ ?_ | refine cond_v (fun h => ?_) (fun h => ?_)
    | refine seg_eval (by simp -dsimp -implicitDefEqProofs [hbl, c1, c2, c2', c3, hl3, hl4]; rfl) ?_
    refine wp_loop' (fun j ts mm => ∃ i : Nat, i + j = l.length ∧ l.take i = l'.take i ∧
      ts = [(2, .fptr (.agg (tc v (m : Nat) b (.fsl 7 (l.map avOp)))) 0), (3, .fptr (.agg (tc v (m : Nat) b (.fsl 7 (l'.map avOp)))) 0), (5, .v (.int .i64 i))] ∧ mm = []) l.length ?_ ?_
    · exact ⟨[], [], by simp, by simp, 0, by omega, by simp, by simp, by simp⟩
    · rintro j ts mm ⟨i, hi, hlo, rfl, rfl⟩
      by_cases hlt : i < l.length
      · obtain ⟨x, hx⟩ : ∃ x, l[i]? = some x := ⟨_, List.getElem?_eq_getElem (by omega)⟩
        obtain ⟨y, hy⟩ : ∃ y, l'[i]? = some y := ⟨_, List.getElem?_eq_getElem (by omega)⟩
        have hd : decide ((i : Int) < (l.length : Int)) = true := by rw [decide_eq_true_eq]; omega
        have hd2 : decide (i < l.length) = true := by simp [hlt]
        have h64 : IntKind.wrap .i64 ((i : Int) + 1) = ((i + 1 : Nat) : Int) := by rw [IntWalk.i64_in _ (by omega)]; rfl
        have hxo := (hol x (List.mem_of_getElem? hx)).2.2
        have hyo := (hol' y (List.mem_of_getElem? hy)).2.2
        have hst : x = y → l.take (i + 1) = l'.take (i + 1) := fun hxy => by rw [take_more hx, take_more hy, hlo, hxy]
        have hno : x ≠ y → same (⟨v, m, b, l⟩ : Tb) ⟨v, m, b, l'⟩ = false := fun hxy => same_no fun h => hxy (by simp only [Tb.mk.injEq] at h; rw [h.2.2.2, hy] at hx; cases hx; rfl)
        obtain ⟨xf, xq, xc⟩ := x
        obtain ⟨yf, yq, yc⟩ := y
        obtain ⟨⟨xe, xr, xd, xes, xrs⟩, hxc⟩ : ∃ c, xc = c := ⟨_, rfl⟩
        obtain ⟨⟨ye, yr, yd, yes, yrs⟩, hyc⟩ : ∃ c, yc = c := ⟨_, rfl⟩
        have heq : same (⟨xf, xq, xc⟩ : Op) ⟨yf, yq, yc⟩ = (xf == yf && (xq == yq && same xc yc)) := by
          rw [Bool.eq_iff_iff]; simp only [same_iff, Bool.and_eq_true, beq_iff_eq, Op.mk.injEq]
        subst hxc hyc
        simp only at hxo hyo
        repeat' with_reducible first
        | refine stm ?_ | refine seg_both ?_ ?_ | refine seg_case (fun x h => ?_) (fun h => ?_) | refine seg_gate (fun h => ?_) (fun h => ?_) | refine seg_need ?_ ?_ | refine cond_v (fun h => ?_) (fun h => ?_)
        | refine seg_eval (by simp -dsimp -implicitDefEqProofs [avOp, cOp, hbl, hd, hd2]; rfl) ?_
        refine wp_drawsR (fun ts mm => ts = [(2, .fptr (.agg (tc v (m : Nat) b (.fsl 7 (l.map avOp)))) 0), (3, .fptr (.agg (tc v (m : Nat) b (.fsl 7 (l'.map avOp)))) 0), (5, .v (.int .i64 i)), (6, .ptr 0 0 0), (7, .ptr 1 0 0)] ∧
          mm = [.var (cOp ⟨xf, xq, xe, xr, xd, xes, xrs⟩), .var (cOp ⟨yf, yq, ye, yr, yd, yes, yrs⟩)]) ?_ ?_
        · intro W hW
          repeat' with_reducible first
          | refine stp ?_ | refine seg_both ?_ ?_ | refine seg_case (fun x h => ?_) (fun h => ?_) | refine seg_gate (fun h => ?_) (fun h => ?_) | refine seg_need ?_ ?_ | refine cond_v (fun h => ?_) (fun h => ?_)
          | refine seg_eval (by simp -dsimp -implicitDefEqProofs [avOp, cOp, hbl, hd, hd2, hx, hy]; rfl) ?_
          all_goals first
            | omega
            | (refine hW _ _ ⟨[], [0, 1], ?_, ?_, ?_, ?_⟩ <;> (simp [cOp]; done))
            | (refine hW _ _ ⟨[], [1, 0], ?_, ?_, ?_, ?_⟩ <;> (simp [cOp]; done))
            | trace_state
        · rintro ts mm ⟨rfl, rfl⟩
          simp only [cOp]
          have n1 : ((xf : Int) != (yf : Int)) = !(xf == yf) := by rw [Bool.eq_iff_iff]; simp
          generalize hs : same (⟨xe, xr, xd, xes, xrs⟩ : Cs) ⟨ye, yr, yd, yes, yrs⟩ = b3 at *
          by_cases q1 : xf = yf
          · have n1 : (xf != yf) = false := by simp [q1]
            have n1' : ((xf : Int) != (yf : Int)) = false := by simp [q1]
            by_cases q2 : xq = yq
            · have n2 : (xq != yq) = false := by simp [q2]
              cases b3
              · rw [hno (by
                  intro h
                  rw [same_iff.2 h] at heq
                  simp at heq)]
                repeat' with_reducible first
                | refine stp ?_ | refine seg_both ?_ ?_ | refine seg_case (fun x h => ?_) (fun h => ?_) | refine seg_gate (fun h => ?_) (fun h => ?_) | refine seg_need ?_ ?_ | refine cond_v (fun h => ?_) (fun h => ?_)
                | refine seg_eval (by simp -dsimp -implicitDefEqProofs [n1, n1', n2, hs, spSame7, avCs, hxo, hyo]; rfl) ?_
                all_goals first
                  | omega
                  | exact ⟨hxo, hyo⟩
                  | exact post_fin rfl rfl ⟨[], [], rfl, rfl, rfl, rfl⟩
                  | trace_state
              · have hst := hst (same_iff.1 (by rw [heq, q1, q2]; simp))
                repeat' with_reducible first
                | refine stp ?_ | refine seg_both ?_ ?_ | refine seg_case (fun x h => ?_) (fun h => ?_) | refine seg_gate (fun h => ?_) (fun h => ?_) | refine seg_need ?_ ?_ | refine cond_v (fun h => ?_) (fun h => ?_)
                | refine seg_eval (by simp -dsimp -implicitDefEqProofs [n1, n1', n2, hs, spSame7, avCs, hxo, hyo, h64]; rfl) ?_
                all_goals first
                  | omega
                  | exact ⟨hxo, hyo⟩
                  | exact ⟨j - 1, by omega, [], [], by simp, by simp, i + 1, by omega, hst, by simp, by simp⟩
                  | trace_state
            · have n2 : (xq != yq) = true := by simp [q2]
              rw [hno fun h => q2 (by simp only [Op.mk.injEq] at h; exact h.2.1)]
              repeat' with_reducible first
              | refine stp ?_ | refine seg_both ?_ ?_ | refine seg_case (fun x h => ?_) (fun h => ?_) | refine seg_gate (fun h => ?_) (fun h => ?_) | refine seg_need ?_ ?_ | refine cond_v (fun h => ?_) (fun h => ?_)
              | refine seg_eval (by simp -dsimp -implicitDefEqProofs [n1, n1', n2]; rfl) ?_
              all_goals first
                | omega
                | exact post_fin rfl rfl ⟨[], [], rfl, rfl, rfl, rfl⟩
                | trace_state
          · have n1 : (xf != yf) = true := by simp [q1]
            have n1' : ((xf : Int) != (yf : Int)) = true := by simp; omega
            rw [hno fun h => q1 (by simp only [Op.mk.injEq] at h; exact h.1)]
            repeat' with_reducible first
            | refine stp ?_ | refine seg_both ?_ ?_ | refine seg_case (fun x h => ?_) (fun h => ?_) | refine seg_gate (fun h => ?_) (fun h => ?_) | refine seg_need ?_ ?_ | refine cond_v (fun h => ?_) (fun h => ?_)
            | refine seg_eval (by simp -dsimp -implicitDefEqProofs [n1, n1']; rfl) ?_
            all_goals first
              | omega
              | exact post_fin rfl rfl ⟨[], [], rfl, rfl, rfl, rfl⟩
              | trace_state
      · have hd : decide ((i : Int) < (l.length : Int)) = false := by rw [decide_eq_false_iff_not]; omega
        have hd2 : decide (i < l.length) = false := by simp [hlt]
        have : l = l' := by rw [← List.take_of_length_le (l := l) (i := i) (by omega), ← List.take_of_length_le (l := l') (i := i) (by omega)]; exact hlo
        rw [same_iff.2 (by rw [this])]
        repeat' with_reducible first
        | refine stp ?_ | refine seg_both ?_ ?_ | refine seg_case (fun x h => ?_) (fun h => ?_) | refine seg_gate (fun h => ?_) (fun h => ?_) | refine seg_need ?_ ?_ | refine cond_v (fun h => ?_) (fun h => ?_)
        | refine seg_eval (by simp -dsimp -implicitDefEqProofs [hbl, hd, hd2]; rfl) ?_
        all_goals first
          | omega
          | exact post_fin rfl rfl ⟨[], [], rfl, rfl, rfl, rfl⟩
          | trace_state
  · rw [same_no fun h => e1 (by simp only [Tb.mk.injEq] at h; exact ⟨h.1, h.2.1, h.2.2.1, by rw [h.2.2.2]⟩)]
    generalize hb1 : (v != v') = b1
    generalize hb2 : ((m : Int) != (m' : Int)) = b2
    have hb2' : (m != m') = b2 := by rw [← hb2, Bool.eq_iff_iff]; simp
    generalize hb3 : eqV b b' = b3
    generalize hb4 : ((l.length : Int) != (l'.length : Int)) = b4
    have hb4' : (l.length != l'.length) = b4 := by rw [← hb4, Bool.eq_iff_iff]; simp
    have hc : b1 = true ∨ (b1 = false ∧ b2 = true) ∨ (b1 = false ∧ b2 = false ∧ b3 = false) ∨ (b1 = false ∧ b2 = false ∧ b3 = true ∧ b4 = true) := by
      cases b1
      · cases b2
        · cases b3
          · simp
          · cases b4
            · exact absurd ⟨by simpa using hb1, by simpa using hb2', (eqV_iff (by omega)).1 hb3, by simpa using hb4'⟩ e1
            · simp
        · simp
      · simp
    rcases hc with rfl | ⟨rfl, rfl⟩ | ⟨rfl, rfl, rfl⟩ | ⟨rfl, rfl, rfl, rfl⟩
    all_goals
      repeat' with_reducible first
      | refine stp ?_ | refine seg_both ?_ ?_ | refine seg_case (fun x h => ?_) (fun h => ?_) | refine seg_gate (fun h => ?_) (fun h => ?_) | refine seg_need ?_ ?_ | refine cond_v (fun h => ?_) (fun h => ?_)
      | refine seg_eval (by simp -dsimp -implicitDefEqProofs [hbl, hbl', hb1, hb2, hb2', hb3, hb4, hb4']; rfl) ?_
    all_goals first
      | omega
      | exact post_fin rfl rfl ⟨[], [], rfl, rfl, rfl, rfl⟩
      | trace_state
end Go.Proofs.Ytkbgndebfcjojaa.Am
