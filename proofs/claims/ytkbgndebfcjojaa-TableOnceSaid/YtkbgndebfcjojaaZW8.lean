/-
  A VOTE TAKEN (the document), the whole.
-/
import Derived.Test.YtkbgndebfcjojaaZW7
namespace Go.Proofs.Ytkbgndebfcjojaa.Am
set_option linter.unusedSimpArgs false
set_option linter.unusedVariables false
open Go Go.Proofs
attribute [local irreducible] wpA
attribute [-simp] splice

theorem ready_d (c : Cs) (s : ByteArray) : (readyV c s).1.d = c.d := by unfold readyV; split <;> rfl
noncomputable def spReadiedR : Spec := sp4 avCs (avI .i64) (avI .u8) avS (fun c n w _ => okCs c ∧ 0 ≤ n ∧ 0 ≤ w ∧ w < 256) (fun c n w s => avTd (readiedV c n.toNat w.toNat s))
set_option maxHeartbeats 8000000 in
theorem readiedR_ok : CallOk Try.prog 57 spReadiedR := by
  refine ok_57 (Env.put_ok [] (Env.put_ok [] (Env.put_ok [] (Env.put_ok [] (Env.put_ok [] (Env.put_ok [] (Env.none_ok _) voted_ok) withB_ok) votes_ok) readiesR_ok) enoughR_ok) (CallOk.fixD [.agg [.no, .no, .no, .no, .no, .k 2]] readyR_ok)) spReadiedR (wb_sp4 ?_)
  rintro ⟨e, r, d, es, rs⟩ n w s ⟨⟨⟨he1, he2⟩, hr1, hr2⟩, hn0, hw0, hw1⟩
  obtain ⟨w, rfl⟩ := Int.eq_ofNat_of_zero_le hw0
  obtain ⟨n, rfl⟩ := Int.eq_ofNat_of_zero_le hn0
  simp only [avCs, avI, avS, Int.toNat_natCast] at he1 he2 hr1 hr2 ⊢
  have hbr : okBas rs := ⟨hr1, hr2⟩
  unfold readiedV
  simp only
  unfold ac_57
  cases hv : votedB rs w
  · rw [if_neg (by simp)]
    have hwl : (withB rs w s).length ≤ 1000001 := by have := len_with rs w s; omega
    have hwo := ok_with hr2 w s
    have hf := for_with rs w s
    have hq : (withB rs w s).length ≤ 1000001 ∧ (∀ b ∈ withB rs w s, b.2 < 65536) := ⟨hwl, hwo⟩
    unfold doneV
    by_cases hn : readiesS n ≤ (sizeS (withS (forB rs s) w) : Int)
    · have n1 : decide (readiesS n ≤ (sizeS (withS (forB rs s) w) : Int)) = true := by simp [hn]
      rw [if_pos hn]
      have hd := ready_d ⟨e, r, d, es, withB rs w s⟩ s
      simp only at hd
      by_cases hn2 : enoughS n ≤ (sizeS (withS (forB rs s) w) : Int)
      · have n2 : decide (enoughS n ≤ (sizeS (withS (forB rs s) w) : Int)) = true := by simp [hn2]
        cases d <;> simp only [hd, avTd, hn2, Bool.true_eq_false, Bool.false_eq_true, false_and, and_false, and_true, true_and, if_true, if_false, reduceIte]
        all_goals
          repeat' with_reducible first
          | refine stp ?_ | refine seg_both ?_ ?_ | refine seg_case (fun x h => ?_) (fun h => ?_) | refine seg_gate (fun h => ?_) (fun h => ?_) | refine seg_need ?_ ?_ | refine cond_v (fun h => ?_) (fun h => ?_)
          | refine seg_eval (by simp -dsimp -implicitDefEqProofs [spVoted, spWithB, spVotes, spEchoes, spReadyR, avBas, avTd, hbr, hv, hw1, hq, hf, n1, n2, hd, Int.toNat_natCast]; rfl) ?_
        all_goals first
          | omega
          | exact hq
          | exact fun a b h => hwo _ h
          | exact post_fin rfl rfl ⟨[], [], rfl, rfl, rfl, rfl⟩
          | trace_state
      · have n2 : decide (enoughS n ≤ (sizeS (withS (forB rs s) w) : Int)) = false := by simp; omega
        cases d <;> simp only [hd, avTd, hn2, Bool.true_eq_false, Bool.false_eq_true, false_and, and_false, and_true, true_and, if_true, if_false, reduceIte]
        all_goals
          repeat' with_reducible first
          | refine stp ?_ | refine seg_both ?_ ?_ | refine seg_case (fun x h => ?_) (fun h => ?_) | refine seg_gate (fun h => ?_) (fun h => ?_) | refine seg_need ?_ ?_ | refine cond_v (fun h => ?_) (fun h => ?_)
          | refine seg_eval (by simp -dsimp -implicitDefEqProofs [spVoted, spWithB, spVotes, spEchoes, spReadyR, avBas, avTd, hbr, hv, hw1, hq, hf, n1, n2, hd, Int.toNat_natCast]; rfl) ?_
        all_goals first
          | omega
          | exact hq
          | exact fun a b h => hwo _ h
          | exact post_fin rfl rfl ⟨[], [], rfl, rfl, rfl, rfl⟩
          | trace_state
    · have n1 : decide (readiesS n ≤ (sizeS (withS (forB rs s) w) : Int)) = false := by simp; omega
      rw [if_neg hn]
      by_cases hn2 : enoughS n ≤ (sizeS (withS (forB rs s) w) : Int)
      · have n2 : decide (enoughS n ≤ (sizeS (withS (forB rs s) w) : Int)) = true := by simp [hn2]
        cases d <;> simp only [avTd, hn2, Bool.true_eq_false, Bool.false_eq_true, false_and, and_false, and_true, true_and, if_true, if_false, reduceIte]
        all_goals
          repeat' with_reducible first
          | refine stp ?_ | refine seg_both ?_ ?_ | refine seg_case (fun x h => ?_) (fun h => ?_) | refine seg_gate (fun h => ?_) (fun h => ?_) | refine seg_need ?_ ?_ | refine cond_v (fun h => ?_) (fun h => ?_)
          | refine seg_eval (by simp -dsimp -implicitDefEqProofs [spVoted, spWithB, spVotes, spEchoes, spReadyR, avBas, avTd, hbr, hv, hw1, hq, hf, n1, n2, Int.toNat_natCast]; rfl) ?_
        all_goals first
          | omega
          | exact hq
          | exact fun a b h => hwo _ h
          | exact post_finS rfl rfl (.agg (.cons (.rfl _) (.cons (.rfl _) (.cons (.rfl _) (.cons (.rfl _) (.cons (.rfl _) (.cons (.nil 0 2) (.cons (.rfl _) (.cons (.rfl _) (.cons (.rfl _) .nil)))))))))) ⟨[], [], rfl, rfl, rfl, rfl⟩
          | trace_state
      · have n2 : decide (enoughS n ≤ (sizeS (withS (forB rs s) w) : Int)) = false := by simp; omega
        cases d <;> simp only [avTd, hn2, Bool.true_eq_false, Bool.false_eq_true, false_and, and_false, and_true, true_and, if_true, if_false, reduceIte]
        all_goals
          repeat' with_reducible first
          | refine stp ?_ | refine seg_both ?_ ?_ | refine seg_case (fun x h => ?_) (fun h => ?_) | refine seg_gate (fun h => ?_) (fun h => ?_) | refine seg_need ?_ ?_ | refine cond_v (fun h => ?_) (fun h => ?_)
          | refine seg_eval (by simp -dsimp -implicitDefEqProofs [spVoted, spWithB, spVotes, spEchoes, spReadyR, avBas, avTd, hbr, hv, hw1, hq, hf, n1, n2, Int.toNat_natCast]; rfl) ?_
        all_goals first
          | omega
          | exact hq
          | exact fun a b h => hwo _ h
          | exact post_finS rfl rfl (.agg (.cons (.rfl _) (.cons (.rfl _) (.cons (.rfl _) (.cons (.rfl _) (.cons (.rfl _) (.cons (.nil 0 2) (.cons (.rfl _) (.cons (.rfl _) (.cons (.rfl _) .nil)))))))))) ⟨[], [], rfl, rfl, rfl, rfl⟩
          | trace_state
  · rw [if_pos rfl]
    simp only [failV, avTd]
    repeat' with_reducible first
    | refine stp ?_ | refine seg_both ?_ ?_ | refine seg_case (fun x h => ?_) (fun h => ?_) | refine seg_gate (fun h => ?_) (fun h => ?_) | refine seg_need ?_ ?_ | refine cond_v (fun h => ?_) (fun h => ?_)
    | refine seg_eval (by simp -dsimp -implicitDefEqProofs [spVoted, avBas, hbr, hv, hw1, Int.toNat_natCast]; rfl) ?_
    all_goals first
      | omega
      | exact post_finS rfl rfl (.agg (.cons (.rfl _) (.cons (.rfl _) (.cons (.rfl _) (.cons (.rfl _) (.cons (.rfl _) (.cons (.nil 0 2) (.cons (.rfl _) (.cons (.rfl _) (.cons (.rfl _) .nil)))))))))) ⟨[], [], rfl, rfl, rfl, rfl⟩
      | trace_state

noncomputable def spTakeR : Spec := sp6 avCs (avI .u16) (avI .u8) (avI .i64) (avI .u8) avS (fun c m f _ w _ => okCs c ∧ (0 ≤ m ∧ m < 65536) ∧ (0 ≤ f ∧ f < 256) ∧ 0 ≤ w ∧ w < 256) (fun c m f k w s => avTd (takeV c m.toNat f.toNat k w.toNat s))
set_option maxHeartbeats 16000000 in
theorem takeR_ok : CallOk Try.prog 30 spTakeR := by
  refine ok_30 (Env.put_ok [] (Env.put_ok [] (Env.put_ok [] (Env.put_ok [] (Env.none_ok _) sizeR_ok) hasR_ok) echoR_ok) readiedR_ok) spTakeR (wb_sp6 ?_)
  rintro c m f k w s ⟨hc, ⟨hm0, hm1⟩, ⟨hf0, hf1⟩, hw0, hw1⟩
  obtain ⟨m, rfl⟩ := Int.eq_ofNat_of_zero_le hm0
  obtain ⟨f, rfl⟩ := Int.eq_ofNat_of_zero_le hf0
  obtain ⟨w, rfl⟩ := Int.eq_ofNat_of_zero_le hw0
  obtain ⟨e, r, d, es, rs⟩ := c
  simp only [avCs, avI, avS, Int.toNat_natCast]
  unfold ac_30
  have hA : (k < 1 ∨ 3 < k ∨ 1000 < s.size) ∨ ¬ (k < 1 ∨ 3 < k ∨ 1000 < s.size) := Classical.em _
  by_cases h1 : k < 1
  · have k1 : decide (k < 1) = true := by simp [h1]
    have e : takeV ⟨e, r, d, es, rs⟩ m f k w s = failV ⟨e, r, d, es, rs⟩ 2 := by unfold takeV; rw [if_pos (.inl h1)]
    rw [e]
    simp only [failV, avTd]
    repeat' with_reducible first
    | refine stp ?_ | refine seg_both ?_ ?_ | refine seg_case (fun x h => ?_) (fun h => ?_) | refine seg_gate (fun h => ?_) (fun h => ?_) | refine seg_need ?_ ?_ | refine cond_v (fun h => ?_) (fun h => ?_)
    | refine seg_eval (by simp -dsimp -implicitDefEqProofs [spSize, hm1, k1, Int.toNat_natCast]; rfl) ?_
    all_goals first
      | omega
      | exact post_finS rfl rfl (.agg (.cons (.rfl _) (.cons (.rfl _) (.cons (.rfl _) (.cons (.rfl _) (.cons (.rfl _) (.cons (.nil 0 2) (.cons (.rfl _) (.cons (.rfl _) (.cons (.rfl _) .nil)))))))))) ⟨[], [], rfl, rfl, rfl, rfl⟩
      | trace_state
  have k1 : decide (k < 1) = false := by simp; omega
  by_cases h2 : 3 < k
  · have k2 : decide (3 < k) = true := by simp [h2]
    have e : takeV ⟨e, r, d, es, rs⟩ m f k w s = failV ⟨e, r, d, es, rs⟩ 2 := by unfold takeV; rw [if_pos (.inr (.inl h2))]
    rw [e]
    simp only [failV, avTd]
    repeat' with_reducible first
    | refine stp ?_ | refine seg_both ?_ ?_ | refine seg_case (fun x h => ?_) (fun h => ?_) | refine seg_gate (fun h => ?_) (fun h => ?_) | refine seg_need ?_ ?_ | refine cond_v (fun h => ?_) (fun h => ?_)
    | refine seg_eval (by simp -dsimp -implicitDefEqProofs [spSize, hm1, k1, k2, Int.toNat_natCast]; rfl) ?_
    all_goals first
      | omega
      | exact post_finS rfl rfl (.agg (.cons (.rfl _) (.cons (.rfl _) (.cons (.rfl _) (.cons (.rfl _) (.cons (.rfl _) (.cons (.nil 0 2) (.cons (.rfl _) (.cons (.rfl _) (.cons (.rfl _) .nil)))))))))) ⟨[], [], rfl, rfl, rfl, rfl⟩
      | trace_state
  have k2 : decide (3 < k) = false := by simp; omega
  by_cases h3 : 1000 < s.size
  · have k4 : decide (1000 < s.size) = true := by simp [h3]
    have k5 : decide ((1000 : Int) < (s.size : Int)) = true := by rw [decide_eq_true_eq]; omega
    have e : takeV ⟨e, r, d, es, rs⟩ m f k w s = failV ⟨e, r, d, es, rs⟩ 2 := by unfold takeV; rw [if_pos (.inr (.inr h3))]
    rw [e]
    simp only [failV, avTd]
    repeat' with_reducible first
    | refine stp ?_ | refine seg_both ?_ ?_ | refine seg_case (fun x h => ?_) (fun h => ?_) | refine seg_gate (fun h => ?_) (fun h => ?_) | refine seg_need ?_ ?_ | refine cond_v (fun h => ?_) (fun h => ?_)
    | refine seg_eval (by simp -dsimp -implicitDefEqProofs [spSize, hm1, k1, k2, k4, k5, Int.toNat_natCast]; rfl) ?_
    all_goals first
      | omega
      | exact post_finS rfl rfl (.agg (.cons (.rfl _) (.cons (.rfl _) (.cons (.rfl _) (.cons (.rfl _) (.cons (.rfl _) (.cons (.nil 0 2) (.cons (.rfl _) (.cons (.rfl _) (.cons (.rfl _) .nil)))))))))) ⟨[], [], rfl, rfl, rfl, rfl⟩
      | trace_state
  have k4 : decide (1000 < s.size) = false := by simp; omega
  have k5 : decide ((1000 : Int) < (s.size : Int)) = false := by rw [decide_eq_false_iff_not]; omega
  have hnA : ¬ (k < 1 ∨ 3 < k ∨ 1000 < s.size) := by omega
  by_cases hg : hasS m w = false ∨ hasS m f = false
  · have e : takeV ⟨e, r, d, es, rs⟩ m f k w s = failV ⟨e, r, d, es, rs⟩ 10 := by unfold takeV; rw [if_neg hnA, if_pos (hg.elim .inl fun h => .inr (.inl h))]
    rw [e]
    simp only [failV, avTd]
    cases g1 : hasS m w
    · repeat' with_reducible first
      | refine stp ?_ | refine seg_both ?_ ?_ | refine seg_case (fun x h => ?_) (fun h => ?_) | refine seg_gate (fun h => ?_) (fun h => ?_) | refine seg_need ?_ ?_ | refine cond_v (fun h => ?_) (fun h => ?_)
      | refine seg_eval (by simp -dsimp -implicitDefEqProofs [spSize, spHas, hm1, hw1, hf1, k1, k2, k4, k5, g1, Int.toNat_natCast]; rfl) ?_
      all_goals first
        | omega
        | exact post_finS rfl rfl (.agg (.cons (.rfl _) (.cons (.rfl _) (.cons (.rfl _) (.cons (.rfl _) (.cons (.rfl _) (.cons (.nil 0 2) (.cons (.rfl _) (.cons (.rfl _) (.cons (.rfl _) .nil)))))))))) ⟨[], [], rfl, rfl, rfl, rfl⟩
        | trace_state
    · have g2 : hasS m f = false := by rcases hg with h | h; rw [g1] at h; cases h; exact h
      repeat' with_reducible first
      | refine stp ?_ | refine seg_both ?_ ?_ | refine seg_case (fun x h => ?_) (fun h => ?_) | refine seg_gate (fun h => ?_) (fun h => ?_) | refine seg_need ?_ ?_ | refine cond_v (fun h => ?_) (fun h => ?_)
      | refine seg_eval (by simp -dsimp -implicitDefEqProofs [spSize, spHas, hm1, hw1, hf1, k1, k2, k4, k5, g1, g2, Int.toNat_natCast]; rfl) ?_
      all_goals first
        | omega
        | exact post_finS rfl rfl (.agg (.cons (.rfl _) (.cons (.rfl _) (.cons (.rfl _) (.cons (.rfl _) (.cons (.rfl _) (.cons (.nil 0 2) (.cons (.rfl _) (.cons (.rfl _) (.cons (.rfl _) .nil)))))))))) ⟨[], [], rfl, rfl, rfl, rfl⟩
        | trace_state
  have g1 : hasS m w = true := by cases h : hasS m w <;> simp_all
  have g2 : hasS m f = true := by cases h : hasS m f <;> simp_all
  have hn : ((sizeS m : Nat) : Int).toNat = sizeS m := rfl
  by_cases hk2 : k = 2
  · subst hk2
    have e : takeV ⟨e, r, d, es, rs⟩ m f 2 w s = echoV ⟨e, r, d, es, rs⟩ (sizeS m) w s := by
      unfold takeV
      rw [if_neg hnA, if_neg (by rw [g1, g2]; simp), if_neg (by decide), if_pos rfl]
    rw [e]
    repeat' with_reducible first
    | refine stp ?_ | refine seg_both ?_ ?_ | refine seg_case (fun x h => ?_) (fun h => ?_) | refine seg_gate (fun h => ?_) (fun h => ?_) | refine seg_need ?_ ?_ | refine cond_v (fun h => ?_) (fun h => ?_)
    | refine seg_eval (by simp -dsimp -implicitDefEqProofs [spSize, spHas, hm1, hw1, hf1, k1, k2, k4, k5, g1, g2, spEchoR, hc, avTd, Int.toNat_natCast]; rfl) ?_
    all_goals first
      | omega
      | exact hc
      | (simp only [avTd]; exact post_fin rfl rfl ⟨[], [], rfl, rfl, rfl, rfl⟩)
      | trace_state
  by_cases hk3 : k = 3
  · subst hk3
    have e : takeV ⟨e, r, d, es, rs⟩ m f 3 w s = readiedV ⟨e, r, d, es, rs⟩ (sizeS m) w s := by
      unfold takeV
      rw [if_neg hnA, if_neg (by rw [g1, g2]; simp), if_neg (by decide), if_neg (by decide)]
    rw [e]
    repeat' with_reducible first
    | refine stp ?_ | refine seg_both ?_ ?_ | refine seg_case (fun x h => ?_) (fun h => ?_) | refine seg_gate (fun h => ?_) (fun h => ?_) | refine seg_need ?_ ?_ | refine cond_v (fun h => ?_) (fun h => ?_)
    | refine seg_eval (by simp -dsimp -implicitDefEqProofs [spSize, spHas, hm1, hw1, hf1, k1, k2, k4, k5, g1, g2, spReadiedR, hc, avTd, Int.toNat_natCast]; rfl) ?_
    all_goals first
      | omega
      | exact hc
      | (simp only [avTd]; exact post_fin rfl rfl ⟨[], [], rfl, rfl, rfl, rfl⟩)
      | trace_state
  have hk1 : k = 1 := by omega
  subst hk1
  by_cases hwf : w = f
  · subst hwf
    have g3 : ((w : Int) != (w : Int)) = false := by simp
    cases e
    · have e : takeV ⟨false, r, d, es, rs⟩ m w 1 w s = ⟨⟨true, r, d, es, rs⟩, [(2, s)], noS, false, 0⟩ := by unfold takeV; rw [if_neg hnA, if_neg (by rw [g1]; simp), if_pos rfl]; rfl
      rw [e]
      simp only [avTd]
      repeat' with_reducible first
      | refine stp ?_ | refine seg_both ?_ ?_ | refine seg_case (fun x h => ?_) (fun h => ?_) | refine seg_gate (fun h => ?_) (fun h => ?_) | refine seg_need ?_ ?_ | refine cond_v (fun h => ?_) (fun h => ?_)
      | refine seg_eval (by simp -dsimp -implicitDefEqProofs [spSize, spHas, hm1, hw1, hf1, k1, k2, k4, k5, g1, g3, Int.toNat_natCast]; rfl) ?_
      all_goals first
        | omega
        | exact post_fin rfl rfl ⟨[2], [], rfl, rfl, rfl, rfl⟩
        | trace_state
    · have e : takeV ⟨true, r, d, es, rs⟩ m w 1 w s = failV ⟨true, r, d, es, rs⟩ 6 := by unfold takeV; rw [if_neg hnA, if_neg (by rw [g1]; simp), if_pos rfl]; rfl
      rw [e]
      simp only [failV, avTd]
      repeat' with_reducible first
      | refine stp ?_ | refine seg_both ?_ ?_ | refine seg_case (fun x h => ?_) (fun h => ?_) | refine seg_gate (fun h => ?_) (fun h => ?_) | refine seg_need ?_ ?_ | refine cond_v (fun h => ?_) (fun h => ?_)
      | refine seg_eval (by simp -dsimp -implicitDefEqProofs [spSize, spHas, hm1, hw1, hf1, k1, k2, k4, k5, g1, g3, Int.toNat_natCast]; rfl) ?_
      all_goals first
        | omega
        | exact post_finS rfl rfl (.agg (.cons (.rfl _) (.cons (.rfl _) (.cons (.rfl _) (.cons (.rfl _) (.cons (.rfl _) (.cons (.nil 0 2) (.cons (.rfl _) (.cons (.rfl _) (.cons (.rfl _) .nil)))))))))) ⟨[], [], rfl, rfl, rfl, rfl⟩
        | trace_state
  · have g3 : ((w : Int) != (f : Int)) = true := by simp; omega
    have g4 : (w != f) = true := by simp [hwf]
    have e : takeV ⟨e, r, d, es, rs⟩ m f 1 w s = failV ⟨e, r, d, es, rs⟩ 10 := by unfold takeV; rw [if_neg hnA, if_pos (.inr (.inr ⟨rfl, hwf⟩))]
    rw [e]
    simp only [failV, avTd]
    repeat' with_reducible first
    | refine stp ?_ | refine seg_both ?_ ?_ | refine seg_case (fun x h => ?_) (fun h => ?_) | refine seg_gate (fun h => ?_) (fun h => ?_) | refine seg_need ?_ ?_ | refine cond_v (fun h => ?_) (fun h => ?_)
    | refine seg_eval (by simp -dsimp -implicitDefEqProofs [spSize, spHas, hm1, hw1, hf1, k1, k2, k4, k5, g1, g2, g3, g4, Int.toNat_natCast]; rfl) ?_
    all_goals first
      | omega
      | exact post_finS rfl rfl (.agg (.cons (.rfl _) (.cons (.rfl _) (.cons (.rfl _) (.cons (.rfl _) (.cons (.rfl _) (.cons (.nil 0 2) (.cons (.rfl _) (.cons (.rfl _) (.cons (.rfl _) .nil)))))))))) ⟨[], [], rfl, rfl, rfl, rfl⟩
      | trace_state
end Go.Proofs.Ytkbgndebfcjojaa.Am
