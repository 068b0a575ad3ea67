/-
  ONE VOTE MORE (the program).
-/
import Derived.Test.YtkbgndebfcjojaaZW2
import Derived.Test.YtkbgndebfcjojaaZQ4
namespace Go.Proofs.Ytkbgndebfcjojaa.Am
set_option linter.unusedSimpArgs false
set_option linter.unusedVariables false
open Go Go.Proofs
attribute [local irreducible] wpA
attribute [-simp] splice

def castR (l : List Ba) (who : Nat) (s : ByteArray) : List Ba × Nat × Bool := if votedB l who = true then (l, 0, false) else (withB l who s, sizeS (withS (forB l s) who), true)
noncomputable def spCast : Spec := sp3 avBas (avI .u8) avS (fun l w _ => okBas l ∧ 0 ≤ w ∧ w < 256) (fun l w s => .tup [.fsl 2 ((castR l w.toNat s).1.map avBa), .v (.int .i64 ((castR l w.toNat s).2.1 : Nat)), .v (.bool (castR l w.toNat s).2.2)])
set_option maxHeartbeats 8000000 in
theorem cast_ok : CallOk Try.prog 44 spCast := by
  refine ok_44 (Env.put_ok [] (Env.put_ok [] (Env.put_ok [] (Env.put_ok [true] (Env.put_ok [true, true] (Env.none_ok _) (CallOk.borrow (g_66).enters atB_ok)) cloneBa_ok) has_ok) with_ok) size_ok) spCast (wb_sp3 ?_)
  rintro l w s ⟨⟨hll, hok⟩, hw0, hw1⟩
  obtain ⟨w, rfl⟩ := Int.eq_ofNat_of_zero_le hw0
  simp only [avBas, avI, avS, Int.toNat_natCast]
  have hall := whoAll_lt hok
  have hall2 : ((whoAll l : Nat) : Int) < 65536 := by omega
  have hsh := bas_shaped l
  unfold ac_44
  repeat' with_reducible first
  | refine stp ?_ | refine seg_both ?_ ?_ | refine seg_case (fun x h => ?_) (fun h => ?_) | refine seg_gate (fun h => ?_) (fun h => ?_) | refine seg_need ?_ ?_ | refine cond_v (fun h => ?_) (fun h => ?_)
  | refine seg_eval (by simp -dsimp -implicitDefEqProofs; rfl) ?_
  refine wp_loopR (fun ts mm => ts = [(0, .fsl 2 (l.map avBa)), (1, .v (.int .u8 (w : Nat))), (2, .v (.string s)), (9, .v (.int .u16 (whoAll l : Nat)))] ∧ mm = []) (fun j ts mm => ∃ i : Nat, i + j = l.length ∧
    ts = [(0, .fsl 2 (l.map avBa)), (1, .v (.int .u8 (w : Nat))), (2, .v (.string s)), (9, .v (.int .u16 (whoAll (l.take i) : Nat))), (14, .fsl 2 (l.map avBa)), (15, .v (.int .i64 l.length)), (16, .v (.int .i64 i))] ∧ mm = []) l.length ?_ ?_ ?_
  · exact ⟨[], [], by simp, by simp, 0, by omega, by simp [whoAll], by simp⟩
  · rintro W hW j ts mm ⟨i, hi, rfl, rfl⟩
    by_cases hlt : i < l.length
    · obtain ⟨x, hx⟩ : ∃ x, l[i]? = some x := ⟨_, List.getElem?_eq_getElem (by omega)⟩
      have hd : decide ((i : Int) < (l.length : Int)) = true := by rw [decide_eq_true_eq]; omega
      have hd2 : decide (i < l.length) = true := by simp [hlt]
      have h64 : IntKind.wrap .i64 ((i : Int) + 1) = ((i + 1 : Nat) : Int) := by rw [IntWalk.i64_in _ (by omega)]; rfl
      have hxl := hok x (List.mem_of_getElem? hx)
      have hal := whoAll_lt (l := l.take i) fun b hb => hok b (List.mem_of_mem_take hb)
      have hor := or_nat (whoAll (l.take i)) x.2 hal hxl
      have hst : whoAll (l.take (i + 1)) = whoAll (l.take i) ||| x.2 := by rw [take_more hx, whoAll_snoc]
      obtain ⟨b, n⟩ := x
      simp only at hor hst
      repeat' with_reducible first
      | refine stp ?_ | refine seg_both ?_ ?_ | refine seg_case (fun x h => ?_) (fun h => ?_) | refine seg_gate (fun h => ?_) (fun h => ?_) | refine seg_need ?_ ?_ | refine cond_v (fun h => ?_) (fun h => ?_)
      | refine seg_eval (by simp -dsimp -implicitDefEqProofs [avBa, hd, hd2, h64, hx, hor]; rfl) ?_
      all_goals first
        | omega
        | exact ⟨j - 1, by omega, [], [], by simp, by simp, i + 1, by omega, by simp [avBa, hst], by simp⟩
        | trace_state
    · have hd : decide ((i : Int) < (l.length : Int)) = false := by rw [decide_eq_false_iff_not]; omega
      have hd2 : decide (i < l.length) = false := by simp [hlt]
      have hil : l.take i = l := List.take_of_length_le (by omega)
      rw [hil]
      repeat' with_reducible first
      | refine stp ?_ | refine seg_both ?_ ?_ | refine seg_case (fun x h => ?_) (fun h => ?_) | refine seg_gate (fun h => ?_) (fun h => ?_) | refine seg_need ?_ ?_ | refine cond_v (fun h => ?_) (fun h => ?_)
      | refine seg_eval (by simp -dsimp -implicitDefEqProofs [hd, hd2]; rfl) ?_
      all_goals first
        | omega
        | exact hW _ _ ⟨by simp, by simp⟩
        | trace_state
  · rintro ts mm ⟨rfl, rfl⟩
    have hv := has_all w l
    cases hvo : votedB l w
    · rw [hvo] at hv
      have e : castR l w s = (withB l w s, sizeS (withS (forB l s) w), true) := by unfold castR; rw [if_neg (by simp [hvo])]
      rw [e]
      have hwl : withS (forB l s) w < 65536 := withS_lt (for_lt hok s) w
      have hwl2 : ((withS (forB l s) w : Nat) : Int) < 65536 := by omega
      have hll1 : l.length ≤ 1000001 := by omega
      have hll2 : l.length ≤ 100000000 := by omega
      cases hp : posB l s with
      | none =>
        have hi : idxB l s = -1 := by unfold idxB; rw [hp]
        have hwm : (withB l w s).map avBa = l.map avBa ++ [.agg [.v (.string s), .v (.int .u16 (withS 0 w : Nat))]] := by unfold withB; rw [hp]; simp [avBa]
        have hf : forB l s = 0 := by unfold forB; rw [hp]
        rw [hwm, hf]
        repeat' with_reducible first
        | refine stp ?_ | refine seg_both ?_ ?_ | refine seg_case (fun x h => ?_) (fun h => ?_) | refine seg_gate (fun h => ?_) (fun h => ?_) | refine seg_need ?_ ?_ | refine cond_v (fun h => ?_) (fun h => ?_)
        | refine seg_eval (by simp -dsimp -implicitDefEqProofs [spHas, spCloneBa, spAtB, avBas, avS, spWith, spSize, hv, hw1, hall2, hsh, hll1, hll2, hi, Int.toNat_natCast]; rfl) ?_
        all_goals first
          | omega
          | (have := withS_lt (m := 0) (by omega) w; omega)
          | exact post_fin rfl rfl ⟨[2], [], rfl, rfl, rfl, rfl⟩
          | trace_state
      | some i =>
        have hi : idxB l s = (i : Int) := by unfold idxB; rw [hp]
        obtain ⟨x, hx, hx1, hxf⟩ := pos_at hp
        have hwm : (withB l w s).map avBa = (l.map avBa).set i (.agg [.v (.string s), .v (.int .u16 (withS (forB l s) w : Nat))]) := by unfold withB; rw [hp]; simp [avBa]
        rw [hwm]
        have hil := pos_lt hp
        have hneg : decide ((i : Int) < 0) = false := by rw [decide_eq_false_iff_not]; omega
        have hil2 : (i : Int) < (l.length : Int) := by omega
        rw [hxf] at hwl2 ⊢
        obtain ⟨b, n⟩ := x
        simp only at hx1 hxf hwl2 ⊢
        subst hx1
        have hg : l[i]'hil = (b, n) := (List.getElem?_eq_some_iff.1 hx).2
        have hnl : (n : Int) < 65536 := by have := hok _ (List.mem_of_getElem? hx); simp only at this; omega
        have hset : ((l.map avBa).set i (.agg [.v (.string b), .v (.int .u16 (withS n w : Nat))]))[i]? = some (.agg [.v (.string b), .v (.int .u16 (withS n w : Nat))]) := by rw [List.getElem?_set_self (by simpa using hil)]
        repeat' with_reducible first
        | refine stp ?_ | refine seg_both ?_ ?_ | refine seg_case (fun x h => ?_) (fun h => ?_) | refine seg_gate (fun h => ?_) (fun h => ?_) | refine seg_need ?_ ?_ | refine cond_v (fun h => ?_) (fun h => ?_)
        | refine seg_eval (by simp -dsimp -implicitDefEqProofs [hneg, hil2, hil, hg, avBa, hnl, hwl2, hset, spHas, spCloneBa, spAtB, avBas, avS, spWith, spSize, hv, hw1, hall2, hsh, hll1, hll2, hi, hx, Int.toNat_natCast]; rfl) ?_
        all_goals first
          | omega
          | exact post_fin rfl rfl ⟨[0], [], rfl, rfl, rfl, rfl⟩
          | trace_state
    · rw [hvo] at hv
      have e : castR l w s = (l, 0, false) := by unfold castR; rw [if_pos hvo]
      rw [e]
      repeat' with_reducible first
      | refine stp ?_ | refine seg_both ?_ ?_ | refine seg_case (fun x h => ?_) (fun h => ?_) | refine seg_gate (fun h => ?_) (fun h => ?_) | refine seg_need ?_ ?_ | refine cond_v (fun h => ?_) (fun h => ?_)
      | refine seg_eval (by simp -dsimp -implicitDefEqProofs [spHas, hv, hw1, hall2, Int.toNat_natCast]; rfl) ?_
      all_goals first
        | omega
        | exact post_fin rfl rfl ⟨[], [], rfl, rfl, rfl, rfl⟩
        | trace_state
end Go.Proofs.Ytkbgndebfcjojaa.Am
