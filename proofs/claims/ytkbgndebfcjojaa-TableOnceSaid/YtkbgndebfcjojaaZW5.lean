/-
  A VOTE TAKEN (the program), the whole.
-/
import Derived.Test.YtkbgndebfcjojaaZW4
namespace Go.Proofs.Ytkbgndebfcjojaa.Am
set_option linter.unusedSimpArgs false
set_option linter.unusedVariables false
open Go Go.Proofs
attribute [local irreducible] wpA
attribute [-simp] splice

def cCs (c : Cs) : List AV := [.v (.bool c.e), .v (.bool c.r), .v (.bool c.d), .fsl 2 (c.es.map avBa), .fsl 2 (c.rs.map avBa)]
open Classical in
noncomputable def spReady : Spec
  | [.ptr 0 0 0, .v (.string s)], [.var cs] => match un avCs (.agg cs) with
    | some c => some (.ret (.fsl 2 ((readyV c s).2.map avOu)), [.var (cCs (readyV c s).1)])
    | _ => none
  | _, _ => none
theorem ready_ok : CallOk Try.prog 45 spReady := by
  refine ok_45 (Env.none_ok _) spReady fun args mem r mem1 h => ?_
  unfold spReady at h
  split at h
  case h_2 => cases h
  rename_i s cs
  split at h
  case h_2 => cases h
  rename_i c hc
  cases h
  have hcs := un_some hc
  simp only [avCs, AV.agg.injEq] at hcs
  subst hcs
  obtain ⟨e, r, d, es, rs⟩ := c
  unfold ac_45
  cases r
  · have e1 : readyV ⟨e, false, d, es, rs⟩ s = (⟨e, true, d, es, rs⟩, [(3, s)]) := rfl
    rw [e1]
    simp only [cCs, List.map_cons, List.map_nil, avOu]
    repeat' with_reducible first
    | refine stp ?_ | refine seg_both ?_ ?_ | refine seg_case (fun x h => ?_) (fun h => ?_) | refine seg_gate (fun h => ?_) (fun h => ?_) | refine seg_need ?_ ?_ | refine cond_v (fun h => ?_) (fun h => ?_)
    | refine seg_eval (by simp -dsimp -implicitDefEqProofs; rfl) ?_
    all_goals first
      | exact post_fin rfl rfl ⟨[1], [0], rfl, rfl, rfl, rfl⟩
      | trace_state
  · have e1 : readyV ⟨e, true, d, es, rs⟩ s = (⟨e, true, d, es, rs⟩, []) := rfl
    rw [e1]
    simp only [cCs, List.map_nil]
    repeat' with_reducible first
    | refine stp ?_ | refine seg_both ?_ ?_ | refine seg_case (fun x h => ?_) (fun h => ?_) | refine seg_gate (fun h => ?_) (fun h => ?_) | refine seg_need ?_ ?_ | refine cond_v (fun h => ?_) (fun h => ?_)
    | refine seg_eval (by simp -dsimp -implicitDefEqProofs; rfl) ?_
    all_goals first
      | exact post_finS rfl rfl (.nil 0 2) ⟨[], [0], rfl, rfl, rfl, rfl⟩
      | trace_state

def avVt (t : Vt) : AV := .tup [avCs t.c, .fsl 2 (t.o.map avOu), .v (.string t.b), .v (.bool t.i), .v (.int .i64 t.x)]
noncomputable def spTakeV : Spec := sp6 avCs (avI .u16) (avI .u8) (avI .i64) (avI .u8) avS (fun c m f _ w _ => okCs c ∧ (0 ≤ m ∧ m < 65536) ∧ (0 ≤ f ∧ f < 256) ∧ 0 ≤ w ∧ w < 256) (fun c m f k w s => avVt (takeV c m.toNat f.toNat k w.toNat s))
set_option maxHeartbeats 16000000 in
theorem takeV_ok : CallOk Try.prog 21 spTakeV := by
  refine ok_21 (Env.put_ok [] (Env.put_ok [] (Env.put_ok [] (Env.put_ok [] (Env.put_ok [] (Env.put_ok [] (Env.put_ok [] (Env.put_ok [] (Env.put_ok [true] (Env.none_ok _) ready_ok) fail_ok) ownC_ok) size_ok) has_ok) echoes_ok) readies_ok) enough_ok) cast_ok) spTakeV (wb_sp6 ?_)
  rintro c m f k w s ⟨hc, ⟨hm0, hm1⟩, ⟨hf0, hf1⟩, hw0, hw1⟩
  obtain ⟨m, rfl⟩ := Int.eq_ofNat_of_zero_le hm0
  obtain ⟨f, rfl⟩ := Int.eq_ofNat_of_zero_le hf0
  obtain ⟨w, rfl⟩ := Int.eq_ofNat_of_zero_le hw0
  have hc0 := hc
  obtain ⟨e, r, d, es, rs⟩ := c
  obtain ⟨hes, hrs⟩ := hc
  simp only [avCs, avI, avS, Int.toNat_natCast] at hes hrs ⊢
  unfold ac_21
  by_cases hA : k < 1 ∨ 3 < k ∨ 1000 < s.size
  · have e : takeV ⟨e, r, d, es, rs⟩ m f k w s = failV ⟨e, r, d, es, rs⟩ 2 := by unfold takeV; rw [if_pos hA]
    rw [e]
    simp only [failV, avVt, avCs]
    have cA : (if decide (k < 1) = true then true else if decide (3 < k) = true then true else decide ((1000 : Int) < (s.size : Int))) = true := by
      rcases hA with h | h | h
      · simp [h]
      · simp [h]
      · simp; omega
    rcases hA with h | h | h
    · have k1 : decide (k < 1) = true := by simp [h]
      repeat' with_reducible first
      | refine stp ?_ | refine seg_both ?_ ?_ | refine seg_case (fun x h => ?_) (fun h => ?_) | refine seg_gate (fun h => ?_) (fun h => ?_) | refine seg_need ?_ ?_ | refine cond_v (fun h => ?_) (fun h => ?_)
      | refine seg_eval (by simp -dsimp -implicitDefEqProofs [spSize, hm1, spFail, hc0, avCs, k1, Int.toNat_natCast]; rfl) ?_
      all_goals first
        | omega
        | exact post_fin rfl rfl ⟨[], [], rfl, rfl, rfl, rfl⟩
        | trace_state
    · have k1 : decide (k < 1) = false := by simp; omega
      have k2 : decide (3 < k) = true := by simp [h]
      repeat' with_reducible first
      | refine stp ?_ | refine seg_both ?_ ?_ | refine seg_case (fun x h => ?_) (fun h => ?_) | refine seg_gate (fun h => ?_) (fun h => ?_) | refine seg_need ?_ ?_ | refine cond_v (fun h => ?_) (fun h => ?_)
      | refine seg_eval (by simp -dsimp -implicitDefEqProofs [spSize, hm1, spFail, hc0, avCs, k1, k2, Int.toNat_natCast]; rfl) ?_
      all_goals first
        | omega
        | exact post_fin rfl rfl ⟨[], [], rfl, rfl, rfl, rfl⟩
        | trace_state
    · have k4 : decide (1000 < s.size) = true := by simp [h]
      have k5 : decide ((1000 : Int) < (s.size : Int)) = true := by rw [decide_eq_true_eq]; omega
      by_cases h1 : k < 1
      · have k1 : decide (k < 1) = true := by simp [h1]
        repeat' with_reducible first
        | refine stp ?_ | refine seg_both ?_ ?_ | refine seg_case (fun x h => ?_) (fun h => ?_) | refine seg_gate (fun h => ?_) (fun h => ?_) | refine seg_need ?_ ?_ | refine cond_v (fun h => ?_) (fun h => ?_)
        | refine seg_eval (by simp -dsimp -implicitDefEqProofs [spSize, hm1, spFail, hc0, avCs, k1, Int.toNat_natCast]; rfl) ?_
        all_goals first
          | omega
          | exact post_fin rfl rfl ⟨[], [], rfl, rfl, rfl, rfl⟩
          | trace_state
      · have k1 : decide (k < 1) = false := by simp; omega
        by_cases h2 : 3 < k
        · have k2 : decide (3 < k) = true := by simp [h2]
          repeat' with_reducible first
          | refine stp ?_ | refine seg_both ?_ ?_ | refine seg_case (fun x h => ?_) (fun h => ?_) | refine seg_gate (fun h => ?_) (fun h => ?_) | refine seg_need ?_ ?_ | refine cond_v (fun h => ?_) (fun h => ?_)
          | refine seg_eval (by simp -dsimp -implicitDefEqProofs [spSize, hm1, spFail, hc0, avCs, k1, k2, Int.toNat_natCast]; rfl) ?_
          all_goals first
            | omega
            | exact post_fin rfl rfl ⟨[], [], rfl, rfl, rfl, rfl⟩
            | trace_state
        · have k2 : decide (3 < k) = false := by simp; omega
          repeat' with_reducible first
          | refine stp ?_ | refine seg_both ?_ ?_ | refine seg_case (fun x h => ?_) (fun h => ?_) | refine seg_gate (fun h => ?_) (fun h => ?_) | refine seg_need ?_ ?_ | refine cond_v (fun h => ?_) (fun h => ?_)
          | refine seg_eval (by simp -dsimp -implicitDefEqProofs [spSize, hm1, spFail, hc0, avCs, k1, k2, k4, k5, Int.toNat_natCast]; rfl) ?_
          all_goals first
            | omega
            | exact post_fin rfl rfl ⟨[], [], rfl, rfl, rfl, rfl⟩
            | trace_state
  · have k1 : decide (k < 1) = false := by simp; omega
    have k2 : decide (3 < k) = false := by simp; omega
    have k4 : decide (1000 < s.size) = false := by simp; omega
    have k5 : decide ((1000 : Int) < (s.size : Int)) = false := by rw [decide_eq_false_iff_not]; omega
    by_cases hB : hasS m w = false ∨ hasS m f = false ∨ k = 1 ∧ w ≠ f
    · have e : takeV ⟨e, r, d, es, rs⟩ m f k w s = failV ⟨e, r, d, es, rs⟩ 10 := by unfold takeV; rw [if_neg hA, if_pos hB]
      rw [e]
      simp only [failV, avVt, avCs]
      cases g1 : hasS m w
      · repeat' with_reducible first
        | refine stp ?_ | refine seg_both ?_ ?_ | refine seg_case (fun x h => ?_) (fun h => ?_) | refine seg_gate (fun h => ?_) (fun h => ?_) | refine seg_need ?_ ?_ | refine cond_v (fun h => ?_) (fun h => ?_)
        | refine seg_eval (by simp -dsimp -implicitDefEqProofs [spSize, spHas, hm1, hw1, hf1, spFail, hc0, avCs, k1, k2, k4, k5, g1, Int.toNat_natCast]; rfl) ?_
        all_goals first
          | omega
          | exact post_fin rfl rfl ⟨[], [], rfl, rfl, rfl, rfl⟩
          | trace_state
      · cases g2 : hasS m f
        · repeat' with_reducible first
          | refine stp ?_ | refine seg_both ?_ ?_ | refine seg_case (fun x h => ?_) (fun h => ?_) | refine seg_gate (fun h => ?_) (fun h => ?_) | refine seg_need ?_ ?_ | refine cond_v (fun h => ?_) (fun h => ?_)
          | refine seg_eval (by simp -dsimp -implicitDefEqProofs [spSize, spHas, hm1, hw1, hf1, spFail, hc0, avCs, k1, k2, k4, k5, g1, g2, Int.toNat_natCast]; rfl) ?_
          all_goals first
            | omega
            | exact post_fin rfl rfl ⟨[], [], rfl, rfl, rfl, rfl⟩
            | trace_state
        · obtain ⟨rfl, hne⟩ : k = 1 ∧ w ≠ f := by
            rcases hB with h | h | h
            · rw [g1] at h; cases h
            · rw [g2] at h; cases h
            · exact h
          have g3 : ((w : Int) != (f : Int)) = true := by simp; omega
          have g4 : (w != f) = true := by simp [hne]
          repeat' with_reducible first
          | refine stp ?_ | refine seg_both ?_ ?_ | refine seg_case (fun x h => ?_) (fun h => ?_) | refine seg_gate (fun h => ?_) (fun h => ?_) | refine seg_need ?_ ?_ | refine cond_v (fun h => ?_) (fun h => ?_)
          | refine seg_eval (by simp -dsimp -implicitDefEqProofs [spSize, spHas, hm1, hw1, hf1, spFail, hc0, avCs, k1, k2, k4, k5, g1, g2, g3, g4, Int.toNat_natCast]; rfl) ?_
          all_goals first
            | omega
            | exact post_fin rfl rfl ⟨[], [], rfl, rfl, rfl, rfl⟩
            | trace_state
    · have g1 : hasS m w = true := by cases h : hasS m w <;> simp_all
      have g2 : hasS m f = true := by cases h : hasS m f <;> simp_all
      by_cases hk1 : k = 1
      · subst hk1
        have hwf : w = f := by
          by_cases h : w = f
          · exact h
          · exact absurd (.inr (.inr ⟨rfl, h⟩)) hB
        have g3 : ((w : Int) != (f : Int)) = false := by simp [hwf]
        have g4 : (w != f) = false := by simp [hwf]
        cases e
        · have e : takeV ⟨false, r, d, es, rs⟩ m f 1 w s = ⟨⟨true, r, d, es, rs⟩, [(2, s)], noS, false, 0⟩ := by unfold takeV; rw [if_neg hA, if_neg hB, if_pos rfl]; rfl
          rw [e]
          simp only [avVt, avCs]
          repeat' with_reducible first
          | refine stp ?_ | refine seg_both ?_ ?_ | refine seg_case (fun x h => ?_) (fun h => ?_) | refine seg_gate (fun h => ?_) (fun h => ?_) | refine seg_need ?_ ?_ | refine cond_v (fun h => ?_) (fun h => ?_)
          | refine seg_eval (by simp -dsimp -implicitDefEqProofs [spSize, spHas, hm1, hw1, hf1, spOwnC, hc0, avCs, k1, k2, k4, k5, g1, g2, g3, g4, Int.toNat_natCast]; rfl) ?_
          all_goals first
            | omega
            | exact post_fin rfl rfl ⟨[3], [], rfl, rfl, rfl, rfl⟩
            | trace_state
        · have e : takeV ⟨true, r, d, es, rs⟩ m f 1 w s = failV ⟨true, r, d, es, rs⟩ 6 := by unfold takeV; rw [if_neg hA, if_neg hB, if_pos rfl]; rfl
          rw [e]
          simp only [failV, avVt, avCs]
          repeat' with_reducible first
          | refine stp ?_ | refine seg_both ?_ ?_ | refine seg_case (fun x h => ?_) (fun h => ?_) | refine seg_gate (fun h => ?_) (fun h => ?_) | refine seg_need ?_ ?_ | refine cond_v (fun h => ?_) (fun h => ?_)
          | refine seg_eval (by simp -dsimp -implicitDefEqProofs [spSize, spHas, hm1, hw1, hf1, spFail, hc0, avCs, k1, k2, k4, k5, g1, g2, g3, g4, Int.toNat_natCast]; rfl) ?_
          all_goals first
            | omega
            | exact post_fin rfl rfl ⟨[], [], rfl, rfl, rfl, rfl⟩
            | trace_state
      · have q1 : (k == (1 : Int)) = false := by simp [hk1]
        have hbe : okBas es := hes
        have hbr : okBas rs := hrs
        by_cases hk2 : k = 2
        · subst hk2
          have e : takeV ⟨e, r, d, es, rs⟩ m f 2 w s = echoV ⟨e, r, d, es, rs⟩ (sizeS m) w s := by unfold takeV; rw [if_neg hA, if_neg hB, if_neg (by decide), if_pos rfl]
          rw [e]
          unfold echoV
          simp only
          cases hv : votedB es w
          · have hcr : castR es w s = (withB es w s, sizeS (withS (forB es s) w), true) := by unfold castR; rw [if_neg (by simp [hv])]
            rw [if_neg (by simp)]
            by_cases hn : echoesS (sizeS m) ≤ (sizeS (withS (forB es s) w) : Int)
            · have n1 : decide (echoesS (sizeS m) ≤ (sizeS (withS (forB es s) w) : Int)) = true := by simp [hn]
              rw [if_pos hn]
              unfold readyV
              cases r
              · simp only [avVt, avCs]
                repeat' with_reducible first
                | refine stp ?_ | refine seg_both ?_ ?_ | refine seg_case (fun x h => ?_) (fun h => ?_) | refine seg_gate (fun h => ?_) (fun h => ?_) | refine seg_need ?_ ?_ | refine cond_v (fun h => ?_) (fun h => ?_)
                | refine seg_eval (by simp -dsimp -implicitDefEqProofs [spSize, spHas, hm1, hw1, hf1, spOwnC, hc0, avCs, k1, k2, k4, k5, g1, g2, spEchoes, spCast, avBas, hbe, hcr, n1, spReady, readyV, cCs, avOu, Int.toNat_natCast]; rfl) ?_
                all_goals first
                  | omega
                  | exact post_fin rfl rfl ⟨[], [], rfl, rfl, rfl, rfl⟩
                  | trace_state
              · simp only [avVt, avCs]
                repeat' with_reducible first
                | refine stp ?_ | refine seg_both ?_ ?_ | refine seg_case (fun x h => ?_) (fun h => ?_) | refine seg_gate (fun h => ?_) (fun h => ?_) | refine seg_need ?_ ?_ | refine cond_v (fun h => ?_) (fun h => ?_)
                | refine seg_eval (by simp -dsimp -implicitDefEqProofs [spSize, spHas, hm1, hw1, hf1, spOwnC, hc0, avCs, k1, k2, k4, k5, g1, g2, spEchoes, spCast, avBas, hbe, hcr, n1, spReady, readyV, cCs, avOu, Int.toNat_natCast]; rfl) ?_
                all_goals first
                  | omega
                  | exact post_fin rfl rfl ⟨[], [], rfl, rfl, rfl, rfl⟩
                  | trace_state
            · have n1 : decide (echoesS (sizeS m) ≤ (sizeS (withS (forB es s) w) : Int)) = false := by simp; omega
              rw [if_neg hn]
              simp only [avVt, avCs]
              repeat' with_reducible first
              | refine stp ?_ | refine seg_both ?_ ?_ | refine seg_case (fun x h => ?_) (fun h => ?_) | refine seg_gate (fun h => ?_) (fun h => ?_) | refine seg_need ?_ ?_ | refine cond_v (fun h => ?_) (fun h => ?_)
              | refine seg_eval (by simp -dsimp -implicitDefEqProofs [spSize, spHas, hm1, hw1, hf1, spOwnC, hc0, avCs, k1, k2, k4, k5, g1, g2, spEchoes, spCast, avBas, hbe, hcr, n1, Int.toNat_natCast]; rfl) ?_
              all_goals first
                | omega
                | exact post_finS rfl rfl (.tup (.cons (.rfl _) (.cons (.nil 0 2) (.cons (.rfl _) (.cons (.rfl _) (.cons (.rfl _) .nil)))))) ⟨[], [], rfl, rfl, rfl, rfl⟩
                | trace_state
          · have hcr : castR es w s = (es, 0, false) := by unfold castR; rw [if_pos hv]
            rw [if_pos rfl]
            simp only [failV, avVt, avCs]
            repeat' with_reducible first
            | refine stp ?_ | refine seg_both ?_ ?_ | refine seg_case (fun x h => ?_) (fun h => ?_) | refine seg_gate (fun h => ?_) (fun h => ?_) | refine seg_need ?_ ?_ | refine cond_v (fun h => ?_) (fun h => ?_)
            | refine seg_eval (by simp -dsimp -implicitDefEqProofs [spSize, spHas, hm1, hw1, hf1, spOwnC, spFail, hc0, avCs, k1, k2, k4, k5, g1, g2, spEchoes, spCast, avBas, hbe, hcr, Int.toNat_natCast]; rfl) ?_
            all_goals first
              | omega
              | exact post_fin rfl rfl ⟨[], [], rfl, rfl, rfl, rfl⟩
              | trace_state
        · have hk3 : k = 3 := by omega
          subst hk3
          have e : takeV ⟨e, r, d, es, rs⟩ m f 3 w s = readiedV ⟨e, r, d, es, rs⟩ (sizeS m) w s := by unfold takeV; rw [if_neg hA, if_neg hB, if_neg (by decide), if_neg (by decide)]
          rw [e]
          unfold readiedV
          simp only
          cases hv : votedB rs w
          · have hcr : castR rs w s = (withB rs w s, sizeS (withS (forB rs s) w), true) := by unfold castR; rw [if_neg (by simp [hv])]
            rw [if_neg (by simp)]
            unfold doneV
            by_cases hn : readiesS (sizeS m) ≤ (sizeS (withS (forB rs s) w) : Int)
            · have n1 : decide (readiesS (sizeS m) ≤ (sizeS (withS (forB rs s) w) : Int)) = true := by simp [hn]
              rw [if_pos hn]
              by_cases hn2 : enoughS (sizeS m) ≤ (sizeS (withS (forB rs s) w) : Int)
              · have n2 : decide (enoughS (sizeS m) ≤ (sizeS (withS (forB rs s) w) : Int)) = true := by simp [hn2]
                cases r <;> cases d <;> simp only [readyV, avVt, avCs, hn2]
                all_goals
                  repeat' with_reducible first
                  | refine stp ?_ | refine seg_both ?_ ?_ | refine seg_case (fun x h => ?_) (fun h => ?_) | refine seg_gate (fun h => ?_) (fun h => ?_) | refine seg_need ?_ ?_ | refine cond_v (fun h => ?_) (fun h => ?_)
                  | refine seg_eval (by simp -dsimp -implicitDefEqProofs [spSize, spHas, hm1, hw1, hf1, spOwnC, hc0, avCs, k1, k2, k4, k5, g1, g2, spEchoes, spCast, avBas, hbr, hcr, n1, n2, spReady, readyV, cCs, avOu, Int.toNat_natCast]; rfl) ?_
                all_goals first
                  | omega
                  | exact post_fin rfl rfl ⟨[], [], rfl, rfl, rfl, rfl⟩
                  | trace_state
              · have n2 : decide (enoughS (sizeS m) ≤ (sizeS (withS (forB rs s) w) : Int)) = false := by simp; omega
                cases r <;> cases d <;> simp only [readyV, avVt, avCs, hn2]
                all_goals
                  repeat' with_reducible first
                  | refine stp ?_ | refine seg_both ?_ ?_ | refine seg_case (fun x h => ?_) (fun h => ?_) | refine seg_gate (fun h => ?_) (fun h => ?_) | refine seg_need ?_ ?_ | refine cond_v (fun h => ?_) (fun h => ?_)
                  | refine seg_eval (by simp -dsimp -implicitDefEqProofs [spSize, spHas, hm1, hw1, hf1, spOwnC, hc0, avCs, k1, k2, k4, k5, g1, g2, spEchoes, spCast, avBas, hbr, hcr, n1, n2, spReady, readyV, cCs, avOu, Int.toNat_natCast]; rfl) ?_
                all_goals first
                  | omega
                  | exact post_fin rfl rfl ⟨[], [], rfl, rfl, rfl, rfl⟩
                  | trace_state
            · have n1 : decide (readiesS (sizeS m) ≤ (sizeS (withS (forB rs s) w) : Int)) = false := by simp; omega
              rw [if_neg hn]
              by_cases hn2 : enoughS (sizeS m) ≤ (sizeS (withS (forB rs s) w) : Int)
              · have n2 : decide (enoughS (sizeS m) ≤ (sizeS (withS (forB rs s) w) : Int)) = true := by simp [hn2]
                cases d <;> simp only [avVt, avCs, hn2]
                all_goals
                  repeat' with_reducible first
                  | refine stp ?_ | refine seg_both ?_ ?_ | refine seg_case (fun x h => ?_) (fun h => ?_) | refine seg_gate (fun h => ?_) (fun h => ?_) | refine seg_need ?_ ?_ | refine cond_v (fun h => ?_) (fun h => ?_)
                  | refine seg_eval (by simp -dsimp -implicitDefEqProofs [spSize, spHas, hm1, hw1, hf1, spOwnC, hc0, avCs, k1, k2, k4, k5, g1, g2, spEchoes, spCast, avBas, hbr, hcr, n1, n2, Int.toNat_natCast]; rfl) ?_
                all_goals first
                  | omega
                  | exact post_finS rfl rfl (.tup (.cons (.rfl _) (.cons (.nil 0 2) (.cons (.rfl _) (.cons (.rfl _) (.cons (.rfl _) .nil)))))) ⟨[], [], rfl, rfl, rfl, rfl⟩
                  | trace_state
              · have n2 : decide (enoughS (sizeS m) ≤ (sizeS (withS (forB rs s) w) : Int)) = false := by simp; omega
                cases d <;> simp only [avVt, avCs, hn2]
                all_goals
                  repeat' with_reducible first
                  | refine stp ?_ | refine seg_both ?_ ?_ | refine seg_case (fun x h => ?_) (fun h => ?_) | refine seg_gate (fun h => ?_) (fun h => ?_) | refine seg_need ?_ ?_ | refine cond_v (fun h => ?_) (fun h => ?_)
                  | refine seg_eval (by simp -dsimp -implicitDefEqProofs [spSize, spHas, hm1, hw1, hf1, spOwnC, hc0, avCs, k1, k2, k4, k5, g1, g2, spEchoes, spCast, avBas, hbr, hcr, n1, n2, Int.toNat_natCast]; rfl) ?_
                all_goals first
                  | omega
                  | exact post_finS rfl rfl (.tup (.cons (.rfl _) (.cons (.nil 0 2) (.cons (.rfl _) (.cons (.rfl _) (.cons (.rfl _) .nil)))))) ⟨[], [], rfl, rfl, rfl, rfl⟩
                  | trace_state
          · have hcr : castR rs w s = (rs, 0, false) := by unfold castR; rw [if_pos hv]
            rw [if_pos rfl]
            simp only [failV, avVt, avCs]
            repeat' with_reducible first
            | refine stp ?_ | refine seg_both ?_ ?_ | refine seg_case (fun x h => ?_) (fun h => ?_) | refine seg_gate (fun h => ?_) (fun h => ?_) | refine seg_need ?_ ?_ | refine cond_v (fun h => ?_) (fun h => ?_)
            | refine seg_eval (by simp -dsimp -implicitDefEqProofs [spSize, spHas, hm1, hw1, hf1, spOwnC, spFail, hc0, avCs, k1, k2, k4, k5, g1, g2, spEchoes, spCast, avBas, hbr, hcr, Int.toNat_natCast]; rfl) ?_
            all_goals first
              | omega
              | exact post_fin rfl rfl ⟨[], [], rfl, rfl, rfl, rfl⟩
              | trace_state
end Go.Proofs.Ytkbgndebfcjojaa.Am
