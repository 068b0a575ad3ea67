/-
  A VOTE TAKEN (the document).
-/
import Derived.Test.YtkbgndebfcjojaaZW6
import Derived.Test.YtkbgndebfcjojaaZCodeB
namespace Go.Proofs.Ytkbgndebfcjojaa.Am
set_option linter.unusedSimpArgs false
set_option linter.unusedVariables false
open Go Go.Proofs
attribute [local irreducible] wpA
attribute [-simp] splice

def avOus (l : List Ou) : AV := .fsl 2 (l.map avOu)
theorem inj_avOu {x y : Ou} (h : avOu x = avOu y) : x = y := by
  simp only [avOu, AV.agg.injEq, List.cons.injEq, AV.v.injEq, Value.string.injEq, Value.int.injEq, true_and, and_true] at h
  exact Prod.ext h.1 h.2
theorem map_avOu : ∀ {l m : List Ou}, l.map avOu = m.map avOu → l = m
  | [], [], _ => rfl
  | [], _ :: _, h => by simp at h
  | _ :: _, [], h => by simp at h
  | a :: l, b :: m, h => by
    simp only [List.map_cons, List.cons.injEq] at h
    rw [inj_avOu h.1, map_avOu h.2]
def avTd (t : Vt) : AV := .agg [.v (.bool t.c.e), .v (.bool t.c.r), .v (.bool t.c.d), .fsl 2 (t.c.es.map avBa), .fsl 2 (t.c.rs.map avBa), .fsl 2 (t.o.map avOu), .v (.string t.b), .v (.bool t.i), .v (.int .i64 t.x)]
theorem inj_avTd {x y : Vt} (h : avTd x = avTd y) : x = y := by
  obtain ⟨⟨_, _, _, _, _⟩, _, _, _, _⟩ := x
  obtain ⟨⟨_, _, _, _, _⟩, _, _, _, _⟩ := y
  simp only [avTd, AV.agg.injEq, List.cons.injEq, AV.v.injEq, Value.bool.injEq, Value.string.injEq, Value.int.injEq, AV.fsl.injEq, true_and, and_true] at h
  obtain ⟨h1, h2, h3, h4, h5, h6, h7, h8, h9⟩ := h
  subst h1 h2 h3 h7 h8 h9
  rw [map_avBa h4, map_avBa h5, map_avOu h6]
theorem un_td (e r d : Bool) (es rs : List Ba) (o : List Ou) (b : ByteArray) (i : Bool) (x : Int) : un avTd (.agg [.v (.bool e), .v (.bool r), .v (.bool d), .fsl 2 (es.map avBa), .fsl 2 (rs.map avBa), .fsl 2 (o.map avOu), .v (.string b), .v (.bool i), .v (.int .i64 x)]) = some ⟨⟨e, r, d, es, rs⟩, o, b, i, x⟩ :=
  un_av (av := avTd) (fun _ _ h => inj_avTd h) ⟨⟨e, r, d, es, rs⟩, o, b, i, x⟩
theorem un_td0 (e r d : Bool) (es rs : List Ba) (b : ByteArray) (i : Bool) (x : Int) : un avTd (.agg [.v (.bool e), .v (.bool r), .v (.bool d), .fsl 2 (es.map avBa), .fsl 2 (rs.map avBa), .fsl 2 [], .v (.string b), .v (.bool i), .v (.int .i64 x)]) = some ⟨⟨e, r, d, es, rs⟩, [], b, i, x⟩ := un_td e r d es rs [] b i x
attribute [simp] un_td un_td0

/-- With no votes cast yet. -/
noncomputable def spReadyR : Spec := sp2 avTd avS (fun t _ => t.o = []) (fun t s => avTd ⟨(readyV t.c s).1, (readyV t.c s).2, t.b, t.i, t.x⟩)
set_option maxHeartbeats 4000000 in
theorem readyR_ok : CallOk Try.prog 76 spReadyR := by
  refine ok_76 (Env.none_ok _) spReadyR (wb_sp2 ?_)
  rintro ⟨⟨e, r, d, es, rs⟩, o, b, i, x⟩ s ho
  simp only at ho
  subst ho
  simp only [avTd, avS]
  unfold ac_76
  cases r
  · have e1 : readyV ⟨e, false, d, es, rs⟩ s = (⟨e, true, d, es, rs⟩, [(3, s)]) := rfl
    rw [e1]
    simp only [List.map_cons, List.map_nil, avOu]
    repeat' with_reducible first
    | refine stp ?_ | refine seg_both ?_ ?_ | refine seg_case (fun x h => ?_) (fun h => ?_) | refine seg_gate (fun h => ?_) (fun h => ?_) | refine seg_need ?_ ?_ | refine cond_v (fun h => ?_) (fun h => ?_)
    | refine seg_eval (by simp -dsimp -implicitDefEqProofs; rfl) ?_
    all_goals first
      | omega
      | exact post_fin rfl rfl ⟨[5], [], rfl, rfl, rfl, rfl⟩
      | trace_state
  · have e1 : readyV ⟨e, true, d, es, rs⟩ s = (⟨e, true, d, es, rs⟩, []) := rfl
    rw [e1]
    simp only [List.map_nil]
    repeat' with_reducible first
    | refine stp ?_ | refine seg_both ?_ ?_ | refine seg_case (fun x h => ?_) (fun h => ?_) | refine seg_gate (fun h => ?_) (fun h => ?_) | refine seg_need ?_ ?_ | refine cond_v (fun h => ?_) (fun h => ?_)
    | refine seg_eval (by simp -dsimp -implicitDefEqProofs; rfl) ?_
    all_goals first
      | exact post_fin rfl rfl ⟨[], [], rfl, rfl, rfl, rfl⟩
      | trace_state

noncomputable def spEchoR : Spec := sp4 avCs (avI .i64) (avI .u8) avS (fun c n w _ => okCs c ∧ 0 ≤ n ∧ 0 ≤ w ∧ w < 256) (fun c n w s => avTd (echoV c n.toNat w.toNat s))
set_option maxHeartbeats 8000000 in
theorem echoR_ok : CallOk Try.prog 56 spEchoR := by
  refine ok_56 (Env.put_ok [] (Env.put_ok [] (Env.put_ok [] (Env.put_ok [] (Env.put_ok [] (Env.none_ok _) voted_ok) withB_ok) votes_ok) echoesR_ok) (CallOk.fixD [.agg [.no, .no, .no, .no, .no, .k 2]] readyR_ok)) spEchoR (wb_sp4 ?_)
  rintro ⟨e, r, d, es, rs⟩ n w s ⟨⟨⟨he1, he2⟩, hr1, hr2⟩, hn0, hw0, hw1⟩
  obtain ⟨w, rfl⟩ := Int.eq_ofNat_of_zero_le hw0
  obtain ⟨n, rfl⟩ := Int.eq_ofNat_of_zero_le hn0
  simp only [avCs, avI, avS, Int.toNat_natCast] at he1 he2 hr1 hr2 ⊢
  have hbe : okBas es := ⟨he1, he2⟩
  unfold echoV
  simp only
  unfold ac_56
  cases hv : votedB es w
  · rw [if_neg (by simp)]
    have hwl : (withB es w s).length ≤ 1000001 := by have := len_with es w s; omega
    have hwo := ok_with he2 w s
    have hf := for_with es w s
    have hq : (withB es w s).length ≤ 1000001 ∧ (∀ b ∈ withB es w s, b.2 < 65536) := ⟨hwl, hwo⟩
    by_cases hn : echoesS n ≤ (sizeS (withS (forB es s) w) : Int)
    · have n1 : decide (echoesS n ≤ (sizeS (withS (forB es s) w) : Int)) = true := by simp [hn]
      rw [if_pos hn]
      simp only [avTd]
      repeat' with_reducible first
      | refine stp ?_ | refine seg_both ?_ ?_ | refine seg_case (fun x h => ?_) (fun h => ?_) | refine seg_gate (fun h => ?_) (fun h => ?_) | refine seg_need ?_ ?_ | refine cond_v (fun h => ?_) (fun h => ?_)
      | refine seg_eval (by simp -dsimp -implicitDefEqProofs [spVoted, spWithB, spVotes, spEchoes, spReadyR, avBas, avTd, hbe, hv, hw1, hq, hf, n1, Int.toNat_natCast]; rfl) ?_
      all_goals first
        | omega
        | exact hq
        | exact fun a b h => hwo _ h
        | exact post_fin rfl rfl ⟨[], [], rfl, rfl, rfl, rfl⟩
        | trace_state
    · have n1 : decide (echoesS n ≤ (sizeS (withS (forB es s) w) : Int)) = false := by simp; omega
      rw [if_neg hn]
      simp only [avTd]
      repeat' with_reducible first
      | refine stp ?_ | refine seg_both ?_ ?_ | refine seg_case (fun x h => ?_) (fun h => ?_) | refine seg_gate (fun h => ?_) (fun h => ?_) | refine seg_need ?_ ?_ | refine cond_v (fun h => ?_) (fun h => ?_)
      | refine seg_eval (by simp -dsimp -implicitDefEqProofs [spVoted, spWithB, spVotes, spEchoes, spReadyR, avBas, avTd, hbe, hv, hw1, hq, hf, n1, Int.toNat_natCast]; rfl) ?_
      all_goals first
        | omega
        | exact hq
        | exact fun a b h => hwo _ h
        | exact post_fin rfl rfl ⟨[], [], rfl, rfl, rfl, rfl⟩
        | exact post_finS rfl rfl (.agg (.cons (.rfl _) (.cons (.rfl _) (.cons (.rfl _) (.cons (.rfl _) (.cons (.rfl _) (.cons (.nil 0 2) (.cons (.rfl _) (.cons (.rfl _) (.cons (.rfl _) .nil)))))))))) ⟨[], [], rfl, rfl, rfl, rfl⟩
        | trace_state
  · rw [if_pos rfl]
    simp only [failV, avTd]
    repeat' with_reducible first
    | refine stp ?_ | refine seg_both ?_ ?_ | refine seg_case (fun x h => ?_) (fun h => ?_) | refine seg_gate (fun h => ?_) (fun h => ?_) | refine seg_need ?_ ?_ | refine cond_v (fun h => ?_) (fun h => ?_)
    | refine seg_eval (by simp -dsimp -implicitDefEqProofs [spVoted, avBas, hbe, hv, hw1, Int.toNat_natCast]; rfl) ?_
    all_goals first
      | omega
      | exact post_finS rfl rfl (.agg (.cons (.rfl _) (.cons (.rfl _) (.cons (.rfl _) (.cons (.rfl _) (.cons (.rfl _) (.cons (.nil 0 2) (.cons (.rfl _) (.cons (.rfl _) (.cons (.rfl _) .nil)))))))))) ⟨[], [], rfl, rfl, rfl, rfl⟩
      | trace_state
end Go.Proofs.Ytkbgndebfcjojaa.Am
