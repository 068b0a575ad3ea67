/-
  VOTES FOR A BODY (the document).
-/
import Derived.Test.YtkbgndebfcjojaaZW5
namespace Go.Proofs.Ytkbgndebfcjojaa.Am
set_option linter.unusedSimpArgs false
set_option linter.unusedVariables false
open Go Go.Proofs
attribute [local irreducible] wpA
attribute [-simp] splice

theorem withR_ok : CallOk Try.prog 82 spWith := by
  refine ok_82 (Env.put_ok [] (Env.put_ok [] (Env.none_ok _) hasR_ok) valueR_ok) spWith fun args mem r mem1 h => ?_
  unfold spWith at h
  split at h
  case h_2 => cases h
  rename_i m i
  obtain ⟨⟨h0, h1, h2, h3⟩, h4⟩ := if_some h
  cases h4
  obtain ⟨m, rfl⟩ := Int.eq_ofNat_of_zero_le h0
  obtain ⟨i, rfl⟩ := Int.eq_ofNat_of_zero_le h2
  simp only [Int.toNat_natCast]
  have hm : m < 65536 := by omega
  unfold ac_82
  cases hh : hasS m i
  · have hw : IntKind.wrap .u16 ((m : Int) + ((bitS i : Nat) : Int)) = ((withS m i : Nat) : Int) := by
      by_cases h16 : i < 16
      · rw [with_add hm h16 hh]
        have hlt := withS_lt hm i
        rw [with_add hm h16 hh] at hlt
        have : bitS i = 2 ^ i := by unfold bitS; rw [if_pos h16]
        rw [this, IntWalk.u16_in _ (by omega)]
        omega
      · rw [with_big (by omega)]
        have : bitS i = 0 := by unfold bitS; rw [if_neg h16]
        rw [this, IntWalk.u16_in _ (by omega)]
        simp
    repeat' with_reducible first
    | refine stp ?_ | refine seg_both ?_ ?_ | refine seg_case (fun x h => ?_) (fun h => ?_) | refine seg_gate (fun h => ?_) (fun h => ?_) | refine seg_need ?_ ?_ | refine cond_v (fun h => ?_) (fun h => ?_)
    | refine seg_eval (by simp -dsimp -implicitDefEqProofs [spHas, spBit, hh, hw]; rfl) ?_
    all_goals first
      | omega
      | exact post_fin rfl rfl ⟨[], [], rfl, rfl, rfl, rfl⟩
      | trace_state
  · rw [with_same hh]
    repeat' with_reducible first
    | refine stp ?_ | refine seg_both ?_ ?_ | refine seg_case (fun x h => ?_) (fun h => ?_) | refine seg_gate (fun h => ?_) (fun h => ?_) | refine seg_need ?_ ?_ | refine cond_v (fun h => ?_) (fun h => ?_)
    | refine seg_eval (by simp -dsimp -implicitDefEqProofs [spHas, spBit, hh]; rfl) ?_
    all_goals first
      | omega
      | exact post_fin rfl rfl ⟨[], [], rfl, rfl, rfl, rfl⟩
      | trace_state

theorem voted_iff {l : List Ba} {w : Nat} : votedB l w = false ↔ ∀ b ∈ l, hasS b.2 w = false := by unfold votedB; rw [List.any_eq_false]; simp
noncomputable def spVoted : Spec := sp2 avBas (avI .u8) (fun l w => okBas l ∧ 0 ≤ w ∧ w < 256) (fun l w => .v (.bool (votedB l w.toNat)))
set_option maxHeartbeats 4000000 in
theorem voted_ok : CallOk Try.prog 72 spVoted := by
  refine ok_72 (Env.put_ok [] (Env.none_ok _) hasR_ok) spVoted (wb_sp2 ?_)
  rintro l w ⟨⟨hll, hok⟩, hw0, hw1⟩
  obtain ⟨w, rfl⟩ := Int.eq_ofNat_of_zero_le hw0
  simp only [avBas, avI, Int.toNat_natCast]
  unfold ac_72
  repeat' with_reducible first
  | refine stp ?_ | refine seg_both ?_ ?_ | refine seg_case (fun x h => ?_) (fun h => ?_) | refine seg_gate (fun h => ?_) (fun h => ?_) | refine seg_need ?_ ?_ | refine cond_v (fun h => ?_) (fun h => ?_)
  | refine seg_eval (by simp -dsimp -implicitDefEqProofs; rfl) ?_
  refine wp_loop' (fun j ts mm => ∃ i : Nat, i + j = l.length ∧ (∀ (k : Nat) (x : Ba), k < i → l[k]? = some x → hasS x.2 w = false) ∧
    ts = [(0, .fsl 2 (l.map avBa)), (1, .v (.int .u8 (w : Nat))), (5, .v (.int .i64 i))] ∧ mm = []) l.length ?_ ?_
  · exact ⟨[], [], by simp, by simp, 0, by omega, fun k x hk => by omega, by simp, by simp⟩
  · rintro j ts mm ⟨i, hi, hlo, rfl, rfl⟩
    by_cases hlt : i < l.length
    · obtain ⟨x, hx⟩ : ∃ x, l[i]? = some x := ⟨_, List.getElem?_eq_getElem (by omega)⟩
      have hd : decide ((i : Int) < (l.length : Int)) = true := by rw [decide_eq_true_eq]; omega
      have hd2 : decide (i < l.length) = true := by simp [hlt]
      have h64 : IntKind.wrap .i64 ((i : Int) + 1) = ((i + 1 : Nat) : Int) := by rw [IntWalk.i64_in _ (by omega)]; rfl
      have hxl : (x.2 : Int) < 65536 := by have := hok x (List.mem_of_getElem? hx); omega
      cases hg : hasS x.2 w
      · have hlo2 : ∀ (k : Nat) (y : Ba), k < i + 1 → l[k]? = some y → hasS y.2 w = false := fun k y hk hy => by
          by_cases hki : k = i
          · subst hki; rw [hx] at hy; cases hy; exact hg
          · exact hlo k y (by omega) hy
        obtain ⟨b, n⟩ := x
        simp only at hg hxl
        repeat' with_reducible first
        | refine stp ?_ | refine seg_both ?_ ?_ | refine seg_case (fun x h => ?_) (fun h => ?_) | refine seg_gate (fun h => ?_) (fun h => ?_) | refine seg_need ?_ ?_ | refine cond_v (fun h => ?_) (fun h => ?_)
        | refine seg_eval (by simp -dsimp -implicitDefEqProofs [avBa, hd, hd2, h64, hx, hg, hxl, hw1, spHas, Int.toNat_natCast]; rfl) ?_
        all_goals first
          | omega
          | exact ⟨j - 1, by omega, [], [], by simp, by simp, i + 1, by omega, hlo2, by simp [avBa], by simp⟩
          | trace_state
      · have he : votedB l w = true := List.any_eq_true.2 ⟨x, List.mem_of_getElem? hx, hg⟩
        rw [he]
        obtain ⟨b, n⟩ := x
        simp only at hg hxl
        repeat' with_reducible first
        | refine stp ?_ | refine seg_both ?_ ?_ | refine seg_case (fun x h => ?_) (fun h => ?_) | refine seg_gate (fun h => ?_) (fun h => ?_) | refine seg_need ?_ ?_ | refine cond_v (fun h => ?_) (fun h => ?_)
        | refine seg_eval (by simp -dsimp -implicitDefEqProofs [avBa, hd, hd2, h64, hx, hg, hxl, hw1, spHas, Int.toNat_natCast]; rfl) ?_
        all_goals first
          | omega
          | exact post_fin rfl rfl ⟨[], [], rfl, rfl, rfl, rfl⟩
          | trace_state
    · have hd : decide ((i : Int) < (l.length : Int)) = false := by rw [decide_eq_false_iff_not]; omega
      have hd2 : decide (i < l.length) = false := by simp [hlt]
      have he : votedB l w = false := voted_iff.2 fun b hb => by
        obtain ⟨k, hk⟩ := List.mem_iff_getElem?.1 hb
        exact hlo k b (by have := (List.getElem?_eq_some_iff.1 hk).1; omega) hk
      rw [he]
      repeat' with_reducible first
      | refine stp ?_ | refine seg_both ?_ ?_ | refine seg_case (fun x h => ?_) (fun h => ?_) | refine seg_gate (fun h => ?_) (fun h => ?_) | refine seg_need ?_ ?_ | refine cond_v (fun h => ?_) (fun h => ?_)
      | refine seg_eval (by simp -dsimp -implicitDefEqProofs [hd, hd2]; rfl) ?_
      all_goals first
        | omega
        | exact post_fin rfl rfl ⟨[], [], rfl, rfl, rfl, rfl⟩
        | trace_state

noncomputable def spForB : Spec := sp2 avBas avS (fun l _ => l.length ≤ 1000001) (fun l s => .v (.int .u16 (forB l s : Nat)))
set_option maxHeartbeats 4000000 in
theorem forB_ok : CallOk Try.prog 83 spForB := by
  refine ok_83 (Env.none_ok _) spForB (wb_sp2 ?_)
  rintro l s hll
  simp only [avBas, avS]
  unfold ac_83
  repeat' with_reducible first
  | refine stp ?_ | refine seg_both ?_ ?_ | refine seg_case (fun x h => ?_) (fun h => ?_) | refine seg_gate (fun h => ?_) (fun h => ?_) | refine seg_need ?_ ?_ | refine cond_v (fun h => ?_) (fun h => ?_)
  | refine seg_eval (by simp -dsimp -implicitDefEqProofs; rfl) ?_
  refine wp_loop' (fun j ts mm => ∃ i : Nat, i + j = l.length ∧ (∀ (k : Nat) (x : Ba), k < i → l[k]? = some x → (x.1 == s) = false) ∧
    ts = [(0, .fsl 2 (l.map avBa)), (1, .v (.string s)), (5, .v (.int .i64 i))] ∧ mm = []) l.length ?_ ?_
  · exact ⟨[], [], by simp, by simp, 0, by omega, fun k x hk => by omega, by simp, by simp⟩
  · rintro j ts mm ⟨i, hi, hlo, rfl, rfl⟩
    by_cases hlt : i < l.length
    · obtain ⟨x, hx⟩ : ∃ x, l[i]? = some x := ⟨_, List.getElem?_eq_getElem (by omega)⟩
      have hd : decide ((i : Int) < (l.length : Int)) = true := by rw [decide_eq_true_eq]; omega
      have hd2 : decide (i < l.length) = true := by simp [hlt]
      have h64 : IntKind.wrap .i64 ((i : Int) + 1) = ((i + 1 : Nat) : Int) := by rw [IntWalk.i64_in _ (by omega)]; rfl
      cases hg : (x.1 == s)
      · have hlo2 : ∀ (k : Nat) (y : Ba), k < i + 1 → l[k]? = some y → (y.1 == s) = false := fun k y hk hy => by
          by_cases hki : k = i
          · subst hki; rw [hx] at hy; cases hy; exact hg
          · exact hlo k y (by omega) hy
        obtain ⟨b, n⟩ := x
        simp only at hg
        repeat' with_reducible first
        | refine stp ?_ | refine seg_both ?_ ?_ | refine seg_case (fun x h => ?_) (fun h => ?_) | refine seg_gate (fun h => ?_) (fun h => ?_) | refine seg_need ?_ ?_ | refine cond_v (fun h => ?_) (fun h => ?_)
        | refine seg_eval (by simp -dsimp -implicitDefEqProofs [avBa, hd, hd2, h64, hx, hg]; rfl) ?_
        all_goals first
          | omega
          | exact ⟨j - 1, by omega, [], [], by simp, by simp, i + 1, by omega, hlo2, by simp [avBa], by simp⟩
          | trace_state
      · have he : forB l s = x.2 := by unfold forB; rw [pos_some hx hlo hg]; simp only [hx]
        rw [he]
        obtain ⟨b, n⟩ := x
        simp only at hg
        repeat' with_reducible first
        | refine stp ?_ | refine seg_both ?_ ?_ | refine seg_case (fun x h => ?_) (fun h => ?_) | refine seg_gate (fun h => ?_) (fun h => ?_) | refine seg_need ?_ ?_ | refine cond_v (fun h => ?_) (fun h => ?_)
        | refine seg_eval (by simp -dsimp -implicitDefEqProofs [avBa, hd, hd2, h64, hx, hg]; rfl) ?_
        all_goals first
          | omega
          | exact post_fin rfl rfl ⟨[], [], rfl, rfl, rfl, rfl⟩
          | trace_state
    · have hd : decide ((i : Int) < (l.length : Int)) = false := by rw [decide_eq_false_iff_not]; omega
      have hd2 : decide (i < l.length) = false := by simp [hlt]
      have he : forB l s = 0 := by unfold forB; rw [pos_none fun k x hk => hlo k x (by have := (List.getElem?_eq_some_iff.1 hk).1; omega) hk]
      rw [he]
      repeat' with_reducible first
      | refine stp ?_ | refine seg_both ?_ ?_ | refine seg_case (fun x h => ?_) (fun h => ?_) | refine seg_gate (fun h => ?_) (fun h => ?_) | refine seg_need ?_ ?_ | refine cond_v (fun h => ?_) (fun h => ?_)
      | refine seg_eval (by simp -dsimp -implicitDefEqProofs [hd, hd2]; rfl) ?_
      all_goals first
        | omega
        | exact post_fin rfl rfl ⟨[], [], rfl, rfl, rfl, rfl⟩
        | trace_state

noncomputable def spVotes : Spec := sp2 avBas avS (fun l _ => l.length ≤ 1000001 ∧ ∀ b ∈ l, b.2 < 65536) (fun l s => .v (.int .i64 (sizeS (forB l s) : Nat)))
theorem votes_ok : CallOk Try.prog 74 spVotes := by
  refine ok_74 (Env.put_ok [] (Env.put_ok [] (Env.none_ok _) forB_ok) sizeR_ok) spVotes (wb_sp2 ?_)
  rintro l s ⟨hll, hok⟩
  have hlt := for_lt hok s
  have hlt2 : ((forB l s : Nat) : Int) < 65536 := by omega
  simp only [avBas, avS]
  unfold ac_74
  repeat' with_reducible first
  | refine stp ?_ | refine seg_both ?_ ?_ | refine seg_case (fun x h => ?_) (fun h => ?_) | refine seg_gate (fun h => ?_) (fun h => ?_) | refine seg_need ?_ ?_ | refine cond_v (fun h => ?_) (fun h => ?_)
  | refine seg_eval (by simp -dsimp -implicitDefEqProofs [spForB, spSize, hll, hlt2, Int.toNat_natCast]; rfl) ?_
  all_goals first
    | omega
    | exact post_fin rfl rfl ⟨[], [], rfl, rfl, rfl, rfl⟩
    | trace_state

/-- The ballots with the body's own turned already, and whether it is behind. -/
def turnB (l : List Ba) (w : Nat) (s : ByteArray) : List Ba := match posB l s with
  | some p => l.set p (s, withS (forB l s) w)
  | none => l
def doneB (l : List Ba) (s : ByteArray) (i : Nat) : Bool := match posB l s with
  | some p => decide (p < i)
  | none => false
theorem turn_len (l : List Ba) (w : Nat) (s : ByteArray) : (turnB l w s).length = l.length := by unfold turnB; split <;> simp
theorem turn_at {l : List Ba} {w : Nat} {s : ByteArray} {i : Nat} {x : Ba} (hx : l[i]? = some x) :
    (posB l s = some i ∧ x.1 = s ∧ doneB l s i = false ∧ doneB l s (i + 1) = true ∧ (turnB l w s)[i]? = some (x.1, withS x.2 w)) ∨
    (posB l s ≠ some i ∧ (doneB l s i = false → (x.1 == s) = false) ∧ doneB l s (i + 1) = doneB l s i ∧ (turnB l w s)[i]? = some x) := by
  have hlt := (List.getElem?_eq_some_iff.1 hx).1
  cases hp : posB l s with
  | none =>
    refine .inr ⟨by simp, fun _ => (List.findIdx?_eq_none_iff.1 hp) x (List.mem_of_getElem? hx), by simp [doneB, hp], by unfold turnB; rw [hp]; exact hx⟩
  | some p =>
    by_cases hpi : p = i
    · subst hpi
      obtain ⟨b, hb, hb1, hbf⟩ := pos_at hp
      rw [hx] at hb; cases hb
      refine .inl ⟨rfl, hb1, by simp [doneB, hp], by simp [doneB, hp], ?_⟩
      unfold turnB
      rw [hp]
      simp only
      rw [List.getElem?_set_self hlt, hbf, hb1]
    · refine .inr ⟨by simp [hpi], fun hd => ?_, ?_, ?_⟩
      · simp only [doneB, hp, decide_eq_false_iff_not] at hd
        obtain ⟨_, _, hno⟩ := List.findIdx?_eq_some_iff_getElem.1 hp
        have := hno i (by omega)
        obtain ⟨_, rfl⟩ := List.getElem?_eq_some_iff.1 hx
        simpa using this
      · simp only [doneB, hp]; rw [decide_eq_decide]; omega
      · unfold turnB; rw [hp]; simp only; rw [List.getElem?_set_ne hpi]; exact hx
noncomputable def spWithB : Spec := sp3 avBas (avI .u8) avS (fun l w _ => okBas l ∧ 0 ≤ w ∧ w < 256) (fun l w s => .fsl 2 ((withB l w.toNat s).map avBa))
set_option maxHeartbeats 8000000 in
theorem withB_ok : CallOk Try.prog 73 spWithB := by
  refine ok_73 (Env.put_ok [] (Env.none_ok _) withR_ok) spWithB (wb_sp3 ?_)
  rintro l w s ⟨⟨hll, hok⟩, hw0, hw1⟩
  obtain ⟨w, rfl⟩ := Int.eq_ofNat_of_zero_le hw0
  simp only [avBas, avI, avS, Int.toNat_natCast]
  unfold ac_73
  have hT := turn_len l w s
  repeat' with_reducible first
  | refine stp ?_ | refine seg_both ?_ ?_ | refine seg_case (fun x h => ?_) (fun h => ?_) | refine seg_gate (fun h => ?_) (fun h => ?_) | refine seg_need ?_ ?_ | refine cond_v (fun h => ?_) (fun h => ?_)
  | refine seg_eval (by simp -dsimp -implicitDefEqProofs; rfl) ?_
  refine wp_loopR (fun ts mm => ts = [(1, .v (.int .u8 (w : Nat))), (2, .v (.string s)), (7, .osl 0), (8, .v (.bool (posB l s).isSome))] ∧ mm = [.arr 116 2 ((turnB l w s).map avBa)]) (fun j ts mm => ∃ i : Nat, i + j = l.length ∧
    ts = [(0, .fsl 2 (l.map avBa)), (1, .v (.int .u8 (w : Nat))), (2, .v (.string s)), (7, .osl 0), (8, .v (.bool (doneB l s i))), (9, .v (.int .i64 i))] ∧ mm = [.arr 116 2 (((turnB l w s).take i).map avBa)]) l.length ?_ ?_ ?_
  · have h0 : doneB l s 0 = false := by unfold doneB; split <;> simp
    exact ⟨[(7, 116, 2)], [0], rfl, rfl, 0, by omega, by simp [h0], by simp⟩
  · rintro W hW j ts mm ⟨i, hi, rfl, rfl⟩
    by_cases hlt : i < l.length
    · obtain ⟨x, hx⟩ : ∃ x, l[i]? = some x := ⟨_, List.getElem?_eq_getElem (by omega)⟩
      have hd : decide ((i : Int) < (l.length : Int)) = true := by rw [decide_eq_true_eq]; omega
      have hd2 : decide (i < l.length) = true := by simp [hlt]
      have h64 : IntKind.wrap .i64 ((i : Int) + 1) = ((i + 1 : Nat) : Int) := by rw [IntWalk.i64_in _ (by omega)]; rfl
      have hxl : (x.2 : Int) < 65536 := by have := hok x (List.mem_of_getElem? hx); omega
      have hul : ((turnB l w s).take i).length ≤ 1000000 := by simp; omega
      have hwl : ((withS x.2 w : Nat) : Int) < 65536 := by have := withS_lt (m := x.2) (hok x (List.mem_of_getElem? hx)) w; omega
      rcases turn_at (w := w) (s := s) hx with ⟨hp, h1, h2, h3, h4⟩ | ⟨hp, h1, h2, h3⟩
      · have hst := take_more h4
        have hbs : (x.1 == s) = true := by rw [beq_bytes, h1]; simp
        obtain ⟨b, n⟩ := x
        simp only at hxl hwl hst hbs
        have hxc : (AV.agg [AV.v (.string b), .v (.int .u16 (withS n w : Nat))]).shaped = true := by simp [AV.shaped, AV.one, Value.oneCell']
        repeat' with_reducible first
        | refine stp ?_ | refine seg_both ?_ ?_ | refine seg_case (fun x h => ?_) (fun h => ?_) | refine seg_gate (fun h => ?_) (fun h => ?_) | refine seg_need ?_ ?_ | refine cond_v (fun h => ?_) (fun h => ?_)
        | refine seg_eval (by simp -dsimp -implicitDefEqProofs [avBa, hd, hd2, h64, hx, h2, hbs, hxl, hw1, spWith, hxc, hul, Int.toNat_natCast]; rfl) ?_
        all_goals first
          | omega
          | exact ⟨j - 1, by omega, [], [3], rfl, rfl, i + 1, by omega, by simp [avBa, h3], by rw [hst]; simp [avBa]⟩
          | trace_state
      · have hst := take_more h3
        obtain ⟨b, n⟩ := x
        simp only at hxl hwl hst h1
        have hxc : (AV.agg [AV.v (.string b), .v (.int .u16 (n : Nat))]).shaped = true := by simp [AV.shaped, AV.one, Value.oneCell']
        cases hdn : doneB l s i
        · have hbs := h1 hdn
          rw [hdn] at h2
          repeat' with_reducible first
          | refine stp ?_ | refine seg_both ?_ ?_ | refine seg_case (fun x h => ?_) (fun h => ?_) | refine seg_gate (fun h => ?_) (fun h => ?_) | refine seg_need ?_ ?_ | refine cond_v (fun h => ?_) (fun h => ?_)
          | refine seg_eval (by simp -dsimp -implicitDefEqProofs [avBa, hd, hd2, h64, hx, hbs, hxc, hul]; rfl) ?_
          all_goals first
            | omega
            | exact ⟨j - 1, by omega, [], [3], rfl, rfl, i + 1, by omega, by simp [avBa, h2], by rw [hst]; simp [avBa]⟩
            | trace_state
        · rw [hdn] at h2
          repeat' with_reducible first
          | refine stp ?_ | refine seg_both ?_ ?_ | refine seg_case (fun x h => ?_) (fun h => ?_) | refine seg_gate (fun h => ?_) (fun h => ?_) | refine seg_need ?_ ?_ | refine cond_v (fun h => ?_) (fun h => ?_)
          | refine seg_eval (by simp -dsimp -implicitDefEqProofs [avBa, hd, hd2, h64, hx, hxc, hul]; rfl) ?_
          all_goals first
            | omega
            | exact ⟨j - 1, by omega, [], [3], rfl, rfl, i + 1, by omega, by simp [avBa, h2], by rw [hst]; simp [avBa]⟩
            | trace_state
    · have hd : decide ((i : Int) < (l.length : Int)) = false := by rw [decide_eq_false_iff_not]; omega
      have hd2 : decide (i < l.length) = false := by simp [hlt]
      have hil : (turnB l w s).take i = turnB l w s := List.take_of_length_le (by omega)
      have hdn : doneB l s i = (posB l s).isSome := by
        unfold doneB
        cases hp : posB l s with
        | none => rfl
        | some p => have := pos_lt hp; simp; omega
      rw [hil, hdn]
      repeat' with_reducible first
      | refine stp ?_ | refine seg_both ?_ ?_ | refine seg_case (fun x h => ?_) (fun h => ?_) | refine seg_gate (fun h => ?_) (fun h => ?_) | refine seg_need ?_ ?_ | refine cond_v (fun h => ?_) (fun h => ?_)
      | refine seg_eval (by simp -dsimp -implicitDefEqProofs [hd, hd2]; rfl) ?_
      all_goals first
        | omega
        | exact hW _ _ ⟨by simp, by simp⟩
        | trace_state
  · rintro ts mm ⟨rfl, rfl⟩
    cases hp : posB l s with
    | none =>
      have hwm : (withB l w s).map avBa = (turnB l w s).map avBa ++ [.agg [.v (.string s), .v (.int .u16 (withS 0 w : Nat))]] := by unfold withB turnB; rw [hp]; simp [avBa]
      have hul : (turnB l w s).length ≤ 1000000 := by omega
      have hw0 : ((withS 0 w : Nat) : Int) < 65536 := by have := withS_lt (m := 0) (by omega) w; omega
      have hxc : (AV.agg [AV.v (.string s), .v (.int .u16 (withS 0 w : Nat))]).shaped = true := by simp [AV.shaped, AV.one, Value.oneCell']
      rw [hwm]
      repeat' with_reducible first
      | refine stp ?_ | refine seg_both ?_ ?_ | refine seg_case (fun x h => ?_) (fun h => ?_) | refine seg_gate (fun h => ?_) (fun h => ?_) | refine seg_need ?_ ?_ | refine cond_v (fun h => ?_) (fun h => ?_)
      | refine seg_eval (by simp -dsimp -implicitDefEqProofs [hw1, spWith, hxc, hul, Option.isSome, Int.toNat_natCast]; rfl) ?_
      all_goals first
        | omega
        | exact post_fin rfl rfl ⟨[2], [], rfl, rfl, rfl, rfl⟩
        | trace_state
    | some p =>
      have hwm : (withB l w s).map avBa = (turnB l w s).map avBa := by unfold withB turnB; rw [hp]
      rw [hwm]
      repeat' with_reducible first
      | refine stp ?_ | refine seg_both ?_ ?_ | refine seg_case (fun x h => ?_) (fun h => ?_) | refine seg_gate (fun h => ?_) (fun h => ?_) | refine seg_need ?_ ?_ | refine cond_v (fun h => ?_) (fun h => ?_)
      | refine seg_eval (by simp -dsimp -implicitDefEqProofs [Option.isSome]; rfl) ?_
      all_goals first
        | omega
        | exact post_fin rfl rfl ⟨[0], [], rfl, rfl, rfl, rfl⟩
        | trace_state
end Go.Proofs.Ytkbgndebfcjojaa.Am
