/-
  A TABLE THAT MAY BE, on both sides: the whole.
-/
import Derived.Test.YtkbgndebfcjojaaZT2
namespace Go.Proofs.Ytkbgndebfcjojaa.Am
set_option linter.unusedSimpArgs false
set_option linter.unusedVariables false
open Go Go.Proofs
attribute [local irreducible] wpA
attribute [-simp] splice

open Classical in
theorem rightL_iff {m : Nat} {b : List Nat} {l : List Op} : rightL m b l = true ↔ (∀ o ∈ l, rightO m b o = true) ∧ upL l := by unfold rightL; exact decide_eq_true_iff
theorem rightV_iff {m : Nat} {b : List Nat} : rightV m b = true ↔ ∀ i, i < 16 → badV m b i = false := by
  simp [rightV, List.all_eq_true, List.mem_range]
theorem rightT_iff {t : Tb} : rightT t = true ↔ (0 ≤ t.v ∧ t.v ≤ 1000) ∧ rightV t.m t.b = true ∧ rightL t.m t.b t.os = true := by
  simp only [rightT, Bool.and_eq_true, decide_eq_true_eq]
theorem not_true' {b : Bool} (h : ¬ b = true) : b = false := by cases b; rfl; exact absurd rfl h
noncomputable def spRightT : Spec := sp1 avTb okTb fun t => .v (.bool (rightT t))
set_option maxHeartbeats 16000000 in
theorem rightT_ok : CallOk Try.prog 15 spRightT := by
  refine ok_15 (Env.put_ok [] (Env.put_ok [] (Env.put_ok [] (Env.none_ok _) has_ok) rightO_ok) ordOp_ok) spRightT (wb_sp1 ?_)
  rintro ⟨v, m, b, l⟩ hok
  obtain ⟨hm, hb, hll, hol⟩ := id hok
  simp only at hm hb hll hol ⊢
  have hm2 : (m : Int) < 65536 := by omega
  have hbl := hb.1
  simp only [avTb]
  unfold ac_15
  by_cases hv0 : v < 0
  · have e : rightT ⟨v, m, b, l⟩ = false := not_true' fun h => by have := (rightT_iff.1 h).1; simp only at this; omega
    have v0 : decide (v < 0) = true := by simp [hv0]
    rw [e]
    repeat' with_reducible first
    | refine stp ?_ | refine seg_both ?_ ?_ | refine seg_case (fun x h => ?_) (fun h => ?_) | refine seg_gate (fun h => ?_) (fun h => ?_) | refine seg_need ?_ ?_ | refine cond_v (fun h => ?_) (fun h => ?_)
    | refine seg_eval (by simp -dsimp -implicitDefEqProofs [hbl, v0]; rfl) ?_
    all_goals first
      | exact post_fin rfl rfl ⟨[], [], rfl, rfl, rfl, rfl⟩
      | trace_state
  have v0 : decide (v < 0) = false := by simp [hv0]
  by_cases hv1 : 1000 < v
  · have e : rightT ⟨v, m, b, l⟩ = false := not_true' fun h => by have := (rightT_iff.1 h).1; simp only at this; omega
    have v1 : decide (1000 < v) = true := by simp [hv1]
    rw [e]
    repeat' with_reducible first
    | refine stp ?_ | refine seg_both ?_ ?_ | refine seg_case (fun x h => ?_) (fun h => ?_) | refine seg_gate (fun h => ?_) (fun h => ?_) | refine seg_need ?_ ?_ | refine cond_v (fun h => ?_) (fun h => ?_)
    | refine seg_eval (by simp -dsimp -implicitDefEqProofs [hbl, v0, v1]; rfl) ?_
    all_goals first
      | exact post_fin rfl rfl ⟨[], [], rfl, rfl, rfl, rfl⟩
      | trace_state
  have v1 : decide (1000 < v) = false := by simp [hv1]
  repeat' with_reducible first
  | refine stp ?_ | refine seg_both ?_ ?_ | refine seg_case (fun x h => ?_) (fun h => ?_) | refine seg_gate (fun h => ?_) (fun h => ?_) | refine seg_need ?_ ?_ | refine cond_v (fun h => ?_) (fun h => ?_)
  | refine seg_eval (by simp -dsimp -implicitDefEqProofs [hbl, v0, v1]; rfl) ?_
  refine wp_loopR (fun ts mm => rightV m b = true ∧ ts = [(1, .fptr (.agg (tc v (m : Nat) b (.fsl 7 (l.map avOp)))) 0)] ∧ mm = [])
    (fun j ts mm => ∃ i : Nat, i + j = 16 ∧ (∀ k, k < i → badV m b k = false) ∧ ts = [(1, .fptr (.agg (tc v (m : Nat) b (.fsl 7 (l.map avOp)))) 0), (16, .agg (vc b)), (17, .v (.int .i64 i))] ∧ mm = []) 16 ?_ ?_ ?_
  · exact ⟨[], [], by simp, by simp, 0, by omega, fun k hk => by omega, by simp, by simp⟩
  · rintro W hW j ts mm ⟨i, hi, hlo, rfl, rfl⟩
    by_cases hlt : i < 16
    · have hd : decide ((i : Int) < 16) = true := by rw [decide_eq_true_eq]; omega
      have hd2 : decide (i < 16) = true := by simp [hlt]
      have hd3 : (i : Int) < 16 := by omega
      have h256 : (i : Int) < 256 := by omega
      have hle : i + 1 ≤ 16 := by omega
      have h64 : IntKind.wrap .i64 ((i : Int) + 1) = ((i + 1 : Nat) : Int) := by rw [IntWalk.i64_in _ (by omega)]; rfl
      have h8 : IntKind.wrap .u8 (i : Int) = (i : Int) := IntWalk.u8_in _ (by omega)
      obtain ⟨hba, hbn⟩ := base_at hb hlt
      have hat : (b.drop i).take 1 = [baseT b i] := take_drop_one hba
      have hbad : badV m b i = (decide (1000 < baseT b i) || (decide (0 < baseT b i) && !hasS m i)) := rfl
      have hcast : decide ((1000 : Int) < ((baseT b i : Nat) : Int)) = decide (1000 < baseT b i) := by rw [decide_eq_decide]; omega
      have hcast0 : decide ((0 : Int) < ((baseT b i : Nat) : Int)) = decide (0 < baseT b i) := by rw [decide_eq_decide]; omega
      have hno : badV m b i = true → rightT ⟨v, m, b, l⟩ = false := fun h => not_true' fun hr => by
        have := rightV_iff.1 (rightT_iff.1 hr).2.1 i hlt
        rw [h] at this; cases this
      generalize baseT b i = n at *
      generalize hb1 : decide (1000 < n) = b1 at *
      generalize hb2 : decide (0 < n) = b2 at *
      generalize hb3 : hasS m i = b3 at *
      have hc : b1 = true ∨ (b1 = false ∧ b2 = true ∧ b3 = false) ∨ (b1 = false ∧ b2 = false) ∨ (b1 = false ∧ b2 = true ∧ b3 = true) := by
        clear hb1 hb2 hb3 hbad hno hcast hcast0
        cases b1 <;> cases b2 <;> cases b3 <;> simp
      rcases hc with rfl | ⟨rfl, rfl, rfl⟩ | ⟨rfl, rfl⟩ | ⟨rfl, rfl, rfl⟩
      · rw [hno hbad]
        repeat' with_reducible first
        | refine stp ?_ | refine seg_both ?_ ?_ | refine seg_case (fun x h => ?_) (fun h => ?_) | refine seg_gate (fun h => ?_) (fun h => ?_) | refine seg_need ?_ ?_ | refine cond_v (fun h => ?_) (fun h => ?_)
        | refine seg_eval (by simp -dsimp -implicitDefEqProofs [hbl, hd, hd2, hd3, hle, hat, hcast, hcast0, hb1, hb2, hb3]; rfl) ?_
        all_goals first
          | omega
          | exact post_fin rfl rfl ⟨[], [], rfl, rfl, rfl, rfl⟩
          | trace_state
      · rw [hno hbad]
        repeat' with_reducible first
        | refine stp ?_ | refine seg_both ?_ ?_ | refine seg_case (fun x h => ?_) (fun h => ?_) | refine seg_gate (fun h => ?_) (fun h => ?_) | refine seg_need ?_ ?_ | refine cond_v (fun h => ?_) (fun h => ?_)
        | refine seg_eval (by simp -dsimp -implicitDefEqProofs [hbl, hd, hd2, hd3, hle, hat, h8, hcast, hcast0, hb1, hb2, hb3, hm2, h256, spHas, Int.toNat_natCast, -wrap_u8_cast]; rfl) ?_
        all_goals first
          | omega
          | exact post_fin rfl rfl ⟨[], [], rfl, rfl, rfl, rfl⟩
          | trace_state
      all_goals
        repeat' with_reducible first
        | refine stp ?_ | refine seg_both ?_ ?_ | refine seg_case (fun x h => ?_) (fun h => ?_) | refine seg_gate (fun h => ?_) (fun h => ?_) | refine seg_need ?_ ?_ | refine cond_v (fun h => ?_) (fun h => ?_)
        | refine seg_eval (by simp -dsimp -implicitDefEqProofs [hbl, hd, hd2, hd3, hle, hat, h8, h64, hcast, hcast0, hb1, hb2, hb3, hm2, h256, spHas, Int.toNat_natCast, -wrap_u8_cast]; rfl) ?_
      all_goals first
        | omega
        | exact ⟨j - 1, by omega, [], [], by simp, by simp, i + 1, by omega, fun k hk => by
            rcases Nat.lt_or_eq_of_le (Nat.le_of_lt_succ hk) with h | h
            · exact hlo k h
            · rw [h]; exact hbad, by simp, by simp⟩
        | trace_state
    · have hd : decide ((i : Int) < 16) = false := by rw [decide_eq_false_iff_not]; omega
      have hd2 : decide (i < 16) = false := by simp [hlt]
      repeat' with_reducible first
      | refine stp ?_ | refine seg_both ?_ ?_ | refine seg_case (fun x h => ?_) (fun h => ?_) | refine seg_gate (fun h => ?_) (fun h => ?_) | refine seg_need ?_ ?_ | refine cond_v (fun h => ?_) (fun h => ?_)
      | refine seg_eval (by simp -dsimp -implicitDefEqProofs [hd, hd2]; rfl) ?_
      all_goals first
        | exact hW _ _ ⟨rightV_iff.2 fun k hk => hlo k (by omega), by simp, by simp⟩
        | trace_state
  · rintro ts mm ⟨hrv, rfl, rfl⟩
    repeat' with_reducible first
    | refine stp ?_ | refine seg_both ?_ ?_ | refine seg_case (fun x h => ?_) (fun h => ?_) | refine seg_gate (fun h => ?_) (fun h => ?_) | refine seg_need ?_ ?_ | refine cond_v (fun h => ?_) (fun h => ?_)
    | refine seg_eval (by simp -dsimp -implicitDefEqProofs [hbl]; rfl) ?_
    refine wp_loop' (fun j ts mm => ∃ i : Nat, i + j = l.length ∧ (∀ (k : Nat) (o : Op), k < i → l[k]? = some o → rightO m b o = true) ∧ (∀ (k : Nat) (p o : Op), k + 1 < i → l[k]? = some p → l[k + 1]? = some o → keyOp p < keyOp o) ∧
      ts = [(1, .fptr (.agg (tc v (m : Nat) b (.fsl 7 (l.map avOp)))) 0), (37, .fsl 7 (l.map avOp)), (38, .v (.int .i64 l.length)), (39, .v (.int .i64 i))] ∧ mm = []) l.length ?_ ?_
    · exact ⟨[], [], by simp, by simp, 0, by omega, fun k o hk => by omega, fun k p o hk => by omega, by simp, by simp⟩
    · rintro j ts mm ⟨i, hi, hro, hup, rfl, rfl⟩
      by_cases hlt : i < l.length
      · obtain ⟨x, hx⟩ : ∃ x, l[i]? = some x := ⟨_, List.getElem?_eq_getElem (by omega)⟩
        have hd : decide ((i : Int) < (l.length : Int)) = true := by rw [decide_eq_true_eq]; omega
        have hd2 : decide (i < l.length) = true := by simp [hlt]
        have h64 : IntKind.wrap .i64 ((i : Int) + 1) = ((i + 1 : Nat) : Int) := by rw [IntWalk.i64_in _ (by omega)]; rfl
        have hxw := hol x (List.mem_of_getElem? hx)
        have hno : ¬ ((∀ o ∈ l, rightO m b o = true) ∧ upL l) → rightT ⟨v, m, b, l⟩ = false := fun h => not_true' fun hr => h (rightL_iff.1 (rightT_iff.1 hr).2.2)
        cases hrx : rightO m b x
        · rw [hno fun h => by rw [h.1 x (List.mem_of_getElem? hx)] at hrx; cases hrx]
          obtain ⟨xf, xq, ⟨xe, xr, xd, xes, xrs⟩⟩ := x
          repeat' with_reducible first
          | refine stm ?_ | refine seg_both ?_ ?_ | refine seg_case (fun x h => ?_) (fun h => ?_) | refine seg_gate (fun h => ?_) (fun h => ?_) | refine seg_need ?_ ?_ | refine cond_v (fun h => ?_) (fun h => ?_)
          | refine seg_eval (by simp -dsimp -implicitDefEqProofs [avOp, cOp, hbl, hd, hd2, hx, hrx, spRightO, hok, hxw]; rfl) ?_
          refine wp_drawsR (fun ts mm => ts = [(1, .fptr (.agg (tc v (m : Nat) b (.fsl 7 (l.map avOp)))) 0), (37, .fsl 7 (l.map avOp)), (38, .v (.int .i64 l.length)), (39, .v (.int .i64 i)), (62, .v (.bool true))] ∧ mm = []) ?_ ?_
          · intro W hW
            repeat' with_reducible first
            | refine stp ?_ | refine seg_both ?_ ?_ | refine seg_case (fun x h => ?_) (fun h => ?_) | refine seg_gate (fun h => ?_) (fun h => ?_) | refine seg_need ?_ ?_ | refine cond_v (fun h => ?_) (fun h => ?_)
            | refine seg_eval (by simp -dsimp -implicitDefEqProofs [avOp, cOp, hbl, hd, hd2, hx, hrx, spRightO, hok, hxw]; rfl) ?_
            all_goals first
              | omega
              | exact ⟨hok, hxw⟩
              | exact hW _ _ ⟨[], [], rfl, rfl, by simp, by simp⟩
              | trace_state
          · rintro ts mm ⟨rfl, rfl⟩
            repeat' with_reducible first
            | refine stp ?_ | refine seg_both ?_ ?_ | refine seg_case (fun x h => ?_) (fun h => ?_) | refine seg_gate (fun h => ?_) (fun h => ?_) | refine seg_need ?_ ?_ | refine cond_v (fun h => ?_) (fun h => ?_)
            | refine seg_eval (by simp -dsimp -implicitDefEqProofs; rfl) ?_
            all_goals first
              | exact post_fin rfl rfl ⟨[], [], rfl, rfl, rfl, rfl⟩
              | trace_state
        · have hro2 : ∀ (k : Nat) (o : Op), k < i + 1 → l[k]? = some o → rightO m b o = true := fun k o hk ho => by
            rcases Nat.lt_or_eq_of_le (Nat.le_of_lt_succ hk) with h | h
            · exact hro k o h ho
            · subst h; rw [hx] at ho; cases ho; exact hrx
          by_cases hi0 : i = 0
          · subst hi0
            obtain ⟨xf, xq, ⟨xe, xr, xd, xes, xrs⟩⟩ := x
            repeat' with_reducible first
            | refine stm ?_ | refine seg_both ?_ ?_ | refine seg_case (fun x h => ?_) (fun h => ?_) | refine seg_gate (fun h => ?_) (fun h => ?_) | refine seg_need ?_ ?_ | refine cond_v (fun h => ?_) (fun h => ?_)
            | refine seg_eval (by simp -dsimp -implicitDefEqProofs [avOp, cOp, hbl, hd, hd2, hx, hrx, spRightO, hok, hxw]; rfl) ?_
            refine wp_drawsR (fun ts mm => ts = [(1, .fptr (.agg (tc v (m : Nat) b (.fsl 7 (l.map avOp)))) 0), (37, .fsl 7 (l.map avOp)), (38, .v (.int .i64 l.length)), (39, .v (.int .i64 0)), (62, .v (.bool false))] ∧ mm = []) ?_ ?_
            · intro W hW
              repeat' with_reducible first
              | refine stp ?_ | refine seg_both ?_ ?_ | refine seg_case (fun x h => ?_) (fun h => ?_) | refine seg_gate (fun h => ?_) (fun h => ?_) | refine seg_need ?_ ?_ | refine cond_v (fun h => ?_) (fun h => ?_)
              | refine seg_eval (by simp -dsimp -implicitDefEqProofs [avOp, cOp, hbl, hd, hd2, hx, hrx, spRightO, hok, hxw]; rfl) ?_
              all_goals first
                | omega
                | exact ⟨hok, hxw⟩
                | exact hW _ _ ⟨[], [], rfl, rfl, by simp, by simp⟩
                | trace_state
            · rintro ts mm ⟨rfl, rfl⟩
              have h1 : IntKind.wrap .i64 1 = 1 := by decide
              repeat' with_reducible first
              | refine stp ?_ | refine seg_both ?_ ?_ | refine seg_case (fun x h => ?_) (fun h => ?_) | refine seg_gate (fun h => ?_) (fun h => ?_) | refine seg_need ?_ ?_ | refine cond_v (fun h => ?_) (fun h => ?_)
              | refine seg_eval (by simp -dsimp -implicitDefEqProofs [h1]; rfl) ?_
              all_goals first
                | exact ⟨j - 1, by omega, [], [], by simp, by simp, 1, by omega, hro2, fun k p o hk => by omega, by simp, by simp⟩
                | trace_state
          · obtain ⟨i', hi'⟩ : ∃ i', i = i' + 1 := ⟨i - 1, by omega⟩
            obtain ⟨p, hp⟩ : ∃ p, l[i']? = some p := ⟨_, List.getElem?_eq_getElem (by omega)⟩
            have hsub : IntKind.wrap .i64 ((i : Int) - 1) = (i' : Int) := by rw [IntWalk.i64_in _ (by omega)]; omega
            have hpos' : decide ((0 : Int) < (i : Int)) = true := by rw [decide_eq_true_eq]; omega
            have hpos : decide (0 < i) = true := by rw [decide_eq_true_eq]; omega
            have hpo := right_ok hm (hro i' p (by omega) hp)
            have hxo := right_ok hm hrx
            have hg : decide ((0 : Int) ≤ cmpI (keyOp p) (keyOp x)) = decide (keyOp x ≤ keyOp p) := by
              rw [decide_eq_decide]; unfold cmpI; split <;> (try split) <;> omega
            by_cases hkk : keyOp x ≤ keyOp p
            · rw [hno fun h => by have := h.2 i' p x hp (by rw [← hi']; exact hx); omega]
              have hg2 : decide (keyOp x ≤ keyOp p) = true := by simp [hkk]
              rw [hg2] at hg
              obtain ⟨xf, xq, ⟨xe, xr, xd, xes, xrs⟩⟩ := x
              obtain ⟨pf, pq, ⟨pe, pr, pd, pes, prs⟩⟩ := p
              repeat' with_reducible first
              | refine stm ?_ | refine seg_both ?_ ?_ | refine seg_case (fun x h => ?_) (fun h => ?_) | refine seg_gate (fun h => ?_) (fun h => ?_) | refine seg_need ?_ ?_ | refine cond_v (fun h => ?_) (fun h => ?_)
              | refine seg_eval (by simp -dsimp -implicitDefEqProofs [avOp, cOp, hbl, hd, hd2, hx, hrx, spRightO, hok, hxw]; rfl) ?_
              refine wp_drawsR (fun ts mm => ts = [(1, .fptr (.agg (tc v (m : Nat) b (.fsl 7 (l.map avOp)))) 0), (37, .fsl 7 (l.map avOp)), (38, .v (.int .i64 l.length)), (39, .v (.int .i64 i)), (62, .v (.bool true))] ∧ mm = []) ?_ ?_
              · intro W hW
                repeat' with_reducible first
                | refine stp ?_ | refine seg_both ?_ ?_ | refine seg_case (fun x h => ?_) (fun h => ?_) | refine seg_gate (fun h => ?_) (fun h => ?_) | refine seg_need ?_ ?_ | refine cond_v (fun h => ?_) (fun h => ?_)
                | refine seg_eval (by simp -dsimp -implicitDefEqProofs [avOp, cOp, hbl, hd, hd2, hx, hp, hrx, hsub, hpos', hpos, hg, spRightO, spOrdOp, hpo, hxo, hok, hxw]; rfl) ?_
                all_goals first
                  | omega
                  | exact ⟨hok, hxw⟩
                  | exact ⟨hpo, hxo⟩
                  | exact hW _ _ ⟨[], [], rfl, rfl, by simp, by simp⟩
                  | trace_state
              · rintro ts mm ⟨rfl, rfl⟩
                repeat' with_reducible first
                | refine stp ?_ | refine seg_both ?_ ?_ | refine seg_case (fun x h => ?_) (fun h => ?_) | refine seg_gate (fun h => ?_) (fun h => ?_) | refine seg_need ?_ ?_ | refine cond_v (fun h => ?_) (fun h => ?_)
                | refine seg_eval (by simp -dsimp -implicitDefEqProofs; rfl) ?_
                all_goals first
                  | exact post_fin rfl rfl ⟨[], [], rfl, rfl, rfl, rfl⟩
                  | trace_state
            · have hg2 : decide (keyOp x ≤ keyOp p) = false := by simp [hkk]
              rw [hg2] at hg
              have hup2 : ∀ (k : Nat) (p o : Op), k + 1 < i + 1 → l[k]? = some p → l[k + 1]? = some o → keyOp p < keyOp o := fun k p' o hk hp' ho => by
                by_cases h : k + 1 < i
                · exact hup k p' o h hp' ho
                · have : k = i' := by omega
                  subst this
                  rw [hp] at hp'; cases hp'
                  rw [← hi', hx] at ho; cases ho
                  omega
              obtain ⟨xf, xq, ⟨xe, xr, xd, xes, xrs⟩⟩ := x
              obtain ⟨pf, pq, ⟨pe, pr, pd, pes, prs⟩⟩ := p
              repeat' with_reducible first
              | refine stm ?_ | refine seg_both ?_ ?_ | refine seg_case (fun x h => ?_) (fun h => ?_) | refine seg_gate (fun h => ?_) (fun h => ?_) | refine seg_need ?_ ?_ | refine cond_v (fun h => ?_) (fun h => ?_)
              | refine seg_eval (by simp -dsimp -implicitDefEqProofs [avOp, cOp, hbl, hd, hd2, hx, hrx, spRightO, hok, hxw]; rfl) ?_
              refine wp_drawsR (fun ts mm => ts = [(1, .fptr (.agg (tc v (m : Nat) b (.fsl 7 (l.map avOp)))) 0), (37, .fsl 7 (l.map avOp)), (38, .v (.int .i64 l.length)), (39, .v (.int .i64 i)), (62, .v (.bool false))] ∧ mm = []) ?_ ?_
              · intro W hW
                repeat' with_reducible first
                | refine stp ?_ | refine seg_both ?_ ?_ | refine seg_case (fun x h => ?_) (fun h => ?_) | refine seg_gate (fun h => ?_) (fun h => ?_) | refine seg_need ?_ ?_ | refine cond_v (fun h => ?_) (fun h => ?_)
                | refine seg_eval (by simp -dsimp -implicitDefEqProofs [avOp, cOp, hbl, hd, hd2, hx, hp, hrx, hsub, hpos', hpos, hg, spRightO, spOrdOp, hpo, hxo, hok, hxw]; rfl) ?_
                all_goals first
                  | omega
                  | exact ⟨hok, hxw⟩
                  | exact ⟨hpo, hxo⟩
                  | exact hW _ _ ⟨[], [], rfl, rfl, by simp, by simp⟩
                  | trace_state
              · rintro ts mm ⟨rfl, rfl⟩
                repeat' with_reducible first
                | refine stp ?_ | refine seg_both ?_ ?_ | refine seg_case (fun x h => ?_) (fun h => ?_) | refine seg_gate (fun h => ?_) (fun h => ?_) | refine seg_need ?_ ?_ | refine cond_v (fun h => ?_) (fun h => ?_)
                | refine seg_eval (by simp -dsimp -implicitDefEqProofs [h64]; rfl) ?_
                all_goals first
                  | exact ⟨j - 1, by omega, [], [], by simp, by simp, i + 1, by omega, hro2, hup2, by simp, by simp⟩
                  | trace_state
      · have hd : decide ((i : Int) < (l.length : Int)) = false := by rw [decide_eq_false_iff_not]; omega
        have hd2 : decide (i < l.length) = false := by simp [hlt]
        have e : rightT ⟨v, m, b, l⟩ = true := rightT_iff.2 ⟨by simp only; omega, hrv, rightL_iff.2 ⟨fun o (ho : o ∈ l) => by
          obtain ⟨k, hk⟩ := List.mem_iff_getElem?.1 ho
          exact hro k o (by have := (List.getElem?_eq_some_iff.1 hk).1; omega) hk, fun k p o (hp : l[k]? = some p) (ho : l[k + 1]? = some o) => hup k p o (by have := (List.getElem?_eq_some_iff.1 ho).1; omega) hp ho⟩⟩
        rw [e]
        repeat' with_reducible first
        | refine stp ?_ | refine seg_both ?_ ?_ | refine seg_case (fun x h => ?_) (fun h => ?_) | refine seg_gate (fun h => ?_) (fun h => ?_) | refine seg_need ?_ ?_ | refine cond_v (fun h => ?_) (fun h => ?_)
        | refine seg_eval (by simp -dsimp -implicitDefEqProofs [hd, hd2]; rfl) ?_
        all_goals first
          | omega
          | exact post_fin rfl rfl ⟨[], [], rfl, rfl, rfl, rfl⟩
          | trace_state
end Go.Proofs.Ytkbgndebfcjojaa.Am
