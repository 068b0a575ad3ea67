/-
  A TABLE THAT MAY BE (the document).
-/
import Derived.Test.YtkbgndebfcjojaaZT3
namespace Go.Proofs.Ytkbgndebfcjojaa.Am
set_option linter.unusedSimpArgs false
set_option linter.unusedVariables false
open Go Go.Proofs
attribute [local irreducible] wpA
attribute [-simp] splice

set_option maxHeartbeats 16000000 in
theorem rightTR_ok : CallOk Try.prog 16 spRightT := by
  refine ok_16 (Env.put_ok [] (Env.put_ok [] (Env.none_ok _) hasR_ok) rightOR_ok) spRightT (wb_sp1 ?_)
  rintro ⟨v, m, b, l⟩ hok
  obtain ⟨hm, hb, hll, hol⟩ := id hok
  simp only at hm hb hll hol ⊢
  have hm2 : (m : Int) < 65536 := by omega
  have hbl := hb.1
  simp only [avTb]
  unfold ac_16
  repeat' with_reducible first
  | refine stp ?_ | refine seg_both ?_ ?_ | refine seg_case (fun x h => ?_) (fun h => ?_) | refine seg_gate (fun h => ?_) (fun h => ?_) | refine seg_need ?_ ?_ | refine cond_v (fun h => ?_) (fun h => ?_)
  | refine seg_eval (by simp -dsimp -implicitDefEqProofs [hbl]; rfl) ?_
  refine wp_loopR (fun ts mm => rightV m b = true ∧ ts = [(1, .fptr (.agg (tc v (m : Nat) b (.fsl 7 (l.map avOp)))) 0)] ∧ mm = [.gone])
    (fun j ts mm => ∃ i : Nat, i + j = 16 ∧ (∀ k, k < i → badV m b k = false) ∧ ts = [(1, .fptr (.agg (tc v (m : Nat) b (.fsl 7 (l.map avOp)))) 0), (3, .v (.int .i64 i))] ∧ mm = [.gone]) 16 ?_ ?_ ?_
  · exact ⟨[], [0], by simp, by simp, 0, by omega, fun k hk => by omega, by simp, by simp⟩
  · rintro W hW j ts mm ⟨i, hi, hlo, rfl, rfl⟩
    by_cases hlt : i < 16
    · have hd : decide ((i : Int) < 16) = true := by rw [decide_eq_true_eq]; omega
      have hd2 : decide (i < 16) = true := by simp [hlt]
      have hd3 : (i : Int) < 16 := by omega
      have h256 : (i : Int) < 256 := by omega
      have hle : 2 + i ≤ 18 := by omega
      have h64 : IntKind.wrap .i64 ((i : Int) + 1) = ((i + 1 : Nat) : Int) := by rw [IntWalk.i64_in _ (by omega)]; rfl
      have h8 : IntKind.wrap .u8 (i : Int) = (i : Int) := IntWalk.u8_in _ (by omega)
      obtain ⟨hba, hbn⟩ := base_at hb hlt
      have hat := tc_at (v := v) (m := (m : Int)) (x := .fsl 7 (l.map avOp)) hba
      have hbad : badV m b i = (decide (1000 < baseT b i) || (decide (0 < baseT b i) && !hasS m i)) := rfl
      have hcast : decide ((1000 : Int) < ((baseT b i : Nat) : Int)) = decide (1000 < baseT b i) := by rw [decide_eq_decide]; omega
      have hcast0 : decide ((0 : Int) < ((baseT b i : Nat) : Int)) = decide (0 < baseT b i) := by rw [decide_eq_decide]; omega
      have hno : badV m b i = true → rightT ⟨v, m, b, l⟩ = false := fun h => not_true' fun hr => by
        have := rightV_iff.1 (rightT_iff.1 hr).2.1 i hlt
        rw [h] at this; cases this
      generalize baseT b i = n at *
      generalize hb1 : decide (1000 < n) = b1 at *
      generalize hb2 : decide (0 < n) = b2 at *
      generalize hb3 : hasS m i = b3 at *
      have hc : b1 = true ∨ (b1 = false ∧ b2 = true ∧ b3 = false) ∨ (b1 = false ∧ b2 = false) ∨ (b1 = false ∧ b2 = true ∧ b3 = true) := by
        clear hb1 hb2 hb3 hbad hno hcast hcast0
        cases b1 <;> cases b2 <;> cases b3 <;> simp
      rcases hc with rfl | ⟨rfl, rfl, rfl⟩ | ⟨rfl, rfl⟩ | ⟨rfl, rfl, rfl⟩
      · rw [hno hbad]
        repeat' with_reducible first
        | refine stp ?_ | refine seg_both ?_ ?_ | refine seg_case (fun x h => ?_) (fun h => ?_) | refine seg_gate (fun h => ?_) (fun h => ?_) | refine seg_need ?_ ?_ | refine cond_v (fun h => ?_) (fun h => ?_)
        | refine seg_eval (by simp -dsimp -implicitDefEqProofs [hbl, hd, hd2, hd3, hle, hlt, hat, hcast, hcast0, hb1, hb2, hb3]; rfl) ?_
        all_goals first
          | omega
          | exact post_fin rfl rfl ⟨[], [], rfl, rfl, rfl, rfl⟩
          | trace_state
      · rw [hno hbad]
        repeat' with_reducible first
        | refine stp ?_ | refine seg_both ?_ ?_ | refine seg_case (fun x h => ?_) (fun h => ?_) | refine seg_gate (fun h => ?_) (fun h => ?_) | refine seg_need ?_ ?_ | refine cond_v (fun h => ?_) (fun h => ?_)
        | refine seg_eval (by simp -dsimp -implicitDefEqProofs [hbl, hd, hd2, hd3, hle, hlt, hat, h8, hcast, hcast0, hb1, hb2, hb3, hm2, h256, spHas, Int.toNat_natCast, -wrap_u8_cast]; rfl) ?_
        all_goals first
          | omega
          | exact post_fin rfl rfl ⟨[], [], rfl, rfl, rfl, rfl⟩
          | trace_state
      all_goals
        repeat' with_reducible first
        | refine stp ?_ | refine seg_both ?_ ?_ | refine seg_case (fun x h => ?_) (fun h => ?_) | refine seg_gate (fun h => ?_) (fun h => ?_) | refine seg_need ?_ ?_ | refine cond_v (fun h => ?_) (fun h => ?_)
        | refine seg_eval (by simp -dsimp -implicitDefEqProofs [hbl, hd, hd2, hd3, hle, hlt, hat, h8, h64, hcast, hcast0, hb1, hb2, hb3, hm2, h256, spHas, Int.toNat_natCast, -wrap_u8_cast]; rfl) ?_
      all_goals first
        | omega
        | exact ⟨j - 1, by omega, [], [0], by simp, by simp, i + 1, by omega, fun k hk => by
            rcases Nat.lt_or_eq_of_le (Nat.le_of_lt_succ hk) with h | h
            · exact hlo k h
            · rw [h]; exact hbad, by simp, by simp⟩
        | trace_state
    · have hd : decide ((i : Int) < 16) = false := by rw [decide_eq_false_iff_not]; omega
      have hd2 : decide (i < 16) = false := by simp [hlt]
      repeat' with_reducible first
      | refine stp ?_ | refine seg_both ?_ ?_ | refine seg_case (fun x h => ?_) (fun h => ?_) | refine seg_gate (fun h => ?_) (fun h => ?_) | refine seg_need ?_ ?_ | refine cond_v (fun h => ?_) (fun h => ?_)
      | refine seg_eval (by simp -dsimp -implicitDefEqProofs [hd, hd2]; rfl) ?_
      all_goals first
        | exact hW _ _ ⟨rightV_iff.2 fun k hk => hlo k (by omega), by simp, by simp⟩
        | trace_state
  · rintro ts mm ⟨hrv, rfl, rfl⟩
    repeat' with_reducible first
    | refine stp ?_ | refine seg_both ?_ ?_ | refine seg_case (fun x h => ?_) (fun h => ?_) | refine seg_gate (fun h => ?_) (fun h => ?_) | refine seg_need ?_ ?_ | refine cond_v (fun h => ?_) (fun h => ?_)
    | refine seg_eval (by simp -dsimp -implicitDefEqProofs [hbl]; rfl) ?_
    refine wp_loop' (fun j ts mm => ∃ i : Nat, i + j = l.length ∧ (∀ (k : Nat) (o : Op), k < i → l[k]? = some o → rightO m b o = true) ∧ (∀ (k : Nat) (p o : Op), k + 1 < i → l[k]? = some p → l[k + 1]? = some o → keyOp p < keyOp o) ∧
      ts = [(1, .fptr (.agg (tc v (m : Nat) b (.fsl 7 (l.map avOp)))) 0), (4, .v (.int .i64 i))] ∧ mm = []) l.length ?_ ?_
    · exact ⟨[], [], by simp, by simp, 0, by omega, fun k o hk => by omega, fun k p o hk => by omega, by simp, by simp⟩
    · rintro j ts mm ⟨i, hi, hro, hup, rfl, rfl⟩
      by_cases hlt : i < l.length
      · obtain ⟨x, hx⟩ : ∃ x, l[i]? = some x := ⟨_, List.getElem?_eq_getElem (by omega)⟩
        have hd : decide ((i : Int) < (l.length : Int)) = true := by rw [decide_eq_true_eq]; omega
        have hd2 : decide (i < l.length) = true := by simp [hlt]
        have h64 : IntKind.wrap .i64 ((i : Int) + 1) = ((i + 1 : Nat) : Int) := by rw [IntWalk.i64_in _ (by omega)]; rfl
        have hxw := hol x (List.mem_of_getElem? hx)
        have hno : ¬ ((∀ o ∈ l, rightO m b o = true) ∧ upL l) → rightT ⟨v, m, b, l⟩ = false := fun h => not_true' fun hr => h (rightL_iff.1 (rightT_iff.1 hr).2.2)
        cases hrx : rightO m b x
        · rw [hno fun h => by rw [h.1 x (List.mem_of_getElem? hx)] at hrx; cases hrx]
          obtain ⟨xf, xq, ⟨xe, xr, xd, xes, xrs⟩⟩ := x
          repeat' with_reducible first
          | refine stp ?_ | refine seg_both ?_ ?_ | refine seg_case (fun x h => ?_) (fun h => ?_) | refine seg_gate (fun h => ?_) (fun h => ?_) | refine seg_need ?_ ?_ | refine cond_v (fun h => ?_) (fun h => ?_)
          | refine seg_eval (by simp -dsimp -implicitDefEqProofs [avOp, cOp, hbl, hd, hd2, hx, hrx, spRightO, hok, hxw]; rfl) ?_
          all_goals first
            | omega
            | exact ⟨hok, hxw⟩
            | exact post_fin rfl rfl ⟨[], [], rfl, rfl, rfl, rfl⟩
            | trace_state
        · have hro2 : ∀ (k : Nat) (o : Op), k < i + 1 → l[k]? = some o → rightO m b o = true := fun k o hk ho => by
            rcases Nat.lt_or_eq_of_le (Nat.le_of_lt_succ hk) with h | h
            · exact hro k o h ho
            · subst h; rw [hx] at ho; cases ho; exact hrx
          by_cases hi0 : i = 0
          · subst hi0
            have h1 : IntKind.wrap .i64 1 = 1 := by decide
            obtain ⟨xf, xq, ⟨xe, xr, xd, xes, xrs⟩⟩ := x
            repeat' with_reducible first
            | refine stp ?_ | refine seg_both ?_ ?_ | refine seg_case (fun x h => ?_) (fun h => ?_) | refine seg_gate (fun h => ?_) (fun h => ?_) | refine seg_need ?_ ?_ | refine cond_v (fun h => ?_) (fun h => ?_)
            | refine seg_eval (by simp -dsimp -implicitDefEqProofs [avOp, cOp, hbl, hd, hd2, hx, hrx, spRightO, hok, hxw, h1]; rfl) ?_
            all_goals first
              | omega
              | exact ⟨hok, hxw⟩
              | exact ⟨j - 1, by omega, [], [], by simp, by simp, 1, by omega, hro2, fun k p o hk => by omega, by simp, by simp⟩
              | trace_state
          · obtain ⟨i', hi'⟩ : ∃ i', i = i' + 1 := ⟨i - 1, by omega⟩
            obtain ⟨p, hp⟩ : ∃ p, l[i']? = some p := ⟨_, List.getElem?_eq_getElem (by omega)⟩
            have hsub : IntKind.wrap .i64 ((i : Int) - 1) = (i' : Int) := by rw [IntWalk.i64_in _ (by omega)]; omega
            have hpos' : decide ((0 : Int) < (i : Int)) = true := by rw [decide_eq_true_eq]; omega
            have hpos : decide (0 < i) = true := by rw [decide_eq_true_eq]; omega
            have hpo := right_ok hm (hro i' p (by omega) hp)
            have hxo := right_ok hm hrx
            have hup2 : keyOp p < keyOp x → ∀ (k : Nat) (p o : Op), k + 1 < i + 1 → l[k]? = some p → l[k + 1]? = some o → keyOp p < keyOp o := fun hkk k p' o hk hp' ho => by
              by_cases h : k + 1 < i
              · exact hup k p' o h hp' ho
              · have : k = i' := by omega
                subst this
                rw [hp] at hp'; cases hp'
                rw [← hi', hx] at ho; cases ho
                exact hkk
            have hno2 : ¬ keyOp p < keyOp x → rightT ⟨v, m, b, l⟩ = false := fun hkk => hno fun h => hkk (h.2 i' p x hp (by rw [← hi']; exact hx))
            obtain ⟨xf, xq, ⟨xe, xr, xd, xes, xrs⟩⟩ := x
            obtain ⟨pf, pq, ⟨pe, pr, pd, pes, prs⟩⟩ := p
            simp only [keyOp] at hup2 hno2
            simp only [okOp] at hpo hxo
            by_cases q1 : pf < xf
            · have c1 : decide (pf < xf) = true := by simp [q1]
              have c1' : decide ((pf : Int) < (xf : Int)) = true := by rw [decide_eq_true_eq]; omega
              replace hup2 := hup2 (by omega)
              repeat' with_reducible first
              | refine stp ?_ | refine seg_both ?_ ?_ | refine seg_case (fun x h => ?_) (fun h => ?_) | refine seg_gate (fun h => ?_) (fun h => ?_) | refine seg_need ?_ ?_ | refine cond_v (fun h => ?_) (fun h => ?_)
              | refine seg_eval (by simp -dsimp -implicitDefEqProofs [avOp, cOp, hbl, hd, hd2, hx, hp, hrx, hsub, hpos', hpos, c1, c1', spRightO, hok, hxw, h64]; rfl) ?_
              all_goals first
                | omega
                | exact ⟨hok, hxw⟩
                | exact ⟨j - 1, by omega, [], [], by simp, by simp, i + 1, by omega, hro2, hup2, by simp, by simp⟩
                | trace_state
            · have c1 : decide (pf < xf) = false := by simp; omega
              have c1' : decide ((pf : Int) < (xf : Int)) = false := by rw [decide_eq_false_iff_not]; omega
              by_cases q2 : pf = xf
              · have c2 : (pf == xf) = true := by simp [q2]
                have c2' : ((pf : Int) == (xf : Int)) = true := by simp [q2]
                by_cases q3 : pq < xq
                · have c3 : decide (pq < xq) = true := by simp [q3]
                  replace hup2 := hup2 (by omega)
                  repeat' with_reducible first
                  | refine stp ?_ | refine seg_both ?_ ?_ | refine seg_case (fun x h => ?_) (fun h => ?_) | refine seg_gate (fun h => ?_) (fun h => ?_) | refine seg_need ?_ ?_ | refine cond_v (fun h => ?_) (fun h => ?_)
                  | refine seg_eval (by simp -dsimp -implicitDefEqProofs [avOp, cOp, hbl, hd, hd2, hx, hp, hrx, hsub, hpos', hpos, c1, c1', c2, c2', c3, spRightO, hok, hxw, h64]; rfl) ?_
                  all_goals first
                    | omega
                    | exact ⟨hok, hxw⟩
                    | exact ⟨j - 1, by omega, [], [], by simp, by simp, i + 1, by omega, hro2, hup2, by simp, by simp⟩
                    | trace_state
                · have c3 : decide (pq < xq) = false := by simp; omega
                  rw [hno2 (by omega)]
                  repeat' with_reducible first
                  | refine stp ?_ | refine seg_both ?_ ?_ | refine seg_case (fun x h => ?_) (fun h => ?_) | refine seg_gate (fun h => ?_) (fun h => ?_) | refine seg_need ?_ ?_ | refine cond_v (fun h => ?_) (fun h => ?_)
                  | refine seg_eval (by simp -dsimp -implicitDefEqProofs [avOp, cOp, hbl, hd, hd2, hx, hp, hrx, hsub, hpos', hpos, c1, c1', c2, c2', c3, spRightO, hok, hxw, h64]; rfl) ?_
                  all_goals first
                    | omega
                    | exact ⟨hok, hxw⟩
                    | exact post_fin rfl rfl ⟨[], [], rfl, rfl, rfl, rfl⟩
                    | trace_state
              · have c2 : (pf == xf) = false := by simp [q2]
                have c2' : ((pf : Int) == (xf : Int)) = false := by simp; omega
                rw [hno2 (by omega)]
                repeat' with_reducible first
                | refine stp ?_ | refine seg_both ?_ ?_ | refine seg_case (fun x h => ?_) (fun h => ?_) | refine seg_gate (fun h => ?_) (fun h => ?_) | refine seg_need ?_ ?_ | refine cond_v (fun h => ?_) (fun h => ?_)
                | refine seg_eval (by simp -dsimp -implicitDefEqProofs [avOp, cOp, hbl, hd, hd2, hx, hp, hrx, hsub, hpos', hpos, c1, c1', c2, c2', spRightO, hok, hxw, h64]; rfl) ?_
                all_goals first
                  | omega
                  | exact ⟨hok, hxw⟩
                  | exact post_fin rfl rfl ⟨[], [], rfl, rfl, rfl, rfl⟩
                  | trace_state
      · have hd : decide ((i : Int) < (l.length : Int)) = false := by rw [decide_eq_false_iff_not]; omega
        have hd2 : decide (i < l.length) = false := by simp [hlt]
        have e : rightT ⟨v, m, b, l⟩ = (decide (0 ≤ v) && decide (v ≤ 1000)) := by
          have h2 : rightL m b l = true := rightL_iff.2 ⟨fun o (ho : o ∈ l) => by
            obtain ⟨k, hk⟩ := List.mem_iff_getElem?.1 ho
            exact hro k o (by have := (List.getElem?_eq_some_iff.1 hk).1; omega) hk, fun k p o (hp : l[k]? = some p) (ho : l[k + 1]? = some o) => hup k p o (by have := (List.getElem?_eq_some_iff.1 ho).1; omega) hp ho⟩
          simp [rightT, hrv, h2]
        rw [e]
        generalize hb1 : decide (0 ≤ v) = b1
        generalize hb2 : decide (v ≤ 1000) = b2
        cases b1
        all_goals
          repeat' with_reducible first
          | refine stp ?_ | refine seg_both ?_ ?_ | refine seg_case (fun x h => ?_) (fun h => ?_) | refine seg_gate (fun h => ?_) (fun h => ?_) | refine seg_need ?_ ?_ | refine cond_v (fun h => ?_) (fun h => ?_)
          | refine seg_eval (by simp -dsimp -implicitDefEqProofs [hd, hd2, hbl, hb1, hb2]; rfl) ?_
        all_goals first
          | omega
          | exact post_fin rfl rfl ⟨[], [], rfl, rfl, rfl, rfl⟩
          | trace_state
end Go.Proofs.Ytkbgndebfcjojaa.Am
