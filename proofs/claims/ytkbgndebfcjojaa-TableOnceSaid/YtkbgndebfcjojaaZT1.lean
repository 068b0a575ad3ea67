/-
  BALLOTS THAT ARE SOUND, on both sides.
-/
import Derived.Test.YtkbgndebfcjojaaZEOp
namespace Go.Proofs.Ytkbgndebfcjojaa.Am
set_option linter.unusedSimpArgs false
set_option linter.unusedVariables false
open Go Go.Proofs
attribute [local irreducible] wpA
attribute [-simp] splice

def SoundL (l : List Ba) : Prop := l.Pairwise fun x y => x.1 ≠ y.1 ∧ x.2 &&& y.2 = 0
open Classical in
noncomputable def soundB (l : List Ba) : Bool := decide (SoundL l)
open Classical in
theorem soundB_iff {l : List Ba} : soundB l = true ↔ SoundL l := by unfold soundB; exact decide_eq_true_iff
theorem soundB_no {l : List Ba} (h : ¬ SoundL l) : soundB l = false := by
  cases e : soundB l
  · rfl
  · exact absurd (soundB_iff.1 e) h
theorem sound_more {l : List Ba} {x : Ba} : SoundL (l ++ [x]) ↔ SoundL l ∧ ∀ b ∈ l, b.1 ≠ x.1 ∧ b.2 &&& x.2 = 0 := by
  unfold SoundL; rw [List.pairwise_append]; simp
theorem sound_take {l : List Ba} (i : Nat) (h : SoundL l) : SoundL (l.take i) := List.Pairwise.sublist (List.take_sublist i l) h
theorem who_and (w : Nat) : ∀ l : List Ba, whoAll l &&& w = 0 ↔ ∀ b ∈ l, b.2 &&& w = 0 := by
  intro l
  have : ∀ n : Nat, (l.foldl (fun a b => a ||| b.2) n) &&& w = 0 ↔ n &&& w = 0 ∧ ∀ b ∈ l, b.2 &&& w = 0 := by
    induction l with
    | nil => intro n; simp
    | cons b l ih => intro n; simp only [List.foldl_cons]; rw [ih, Nat.and_or_distrib_right]; simp [Nat.or_eq_zero_iff, and_assoc]
  have h := this 0
  rw [Nat.zero_and] at h
  unfold whoAll
  simpa using h
def mapOf (l : List Ba) : List (ByteArray × AV) := l.map fun b => (b.1, AV.agg [])
theorem mapOf_ids (l : List Ba) : AV.idsAll ((mapOf l).map fun x => x.2) = [] := by
  induction l with
  | nil => rfl
  | cons x l ih =>
    have e : mapOf (x :: l) = (x.1, AV.agg []) :: mapOf l := rfl
    rw [e, List.map_cons, AV.idsAll, ih]
    rfl
theorem mapOf_mapId (f : Nat → Nat) (l : List Ba) : ((mapOf l).map fun e => (e.1, AV.mapId f e.2)) = mapOf l := by simp [mapOf, AV.mapId, AV.mapIdAll]
attribute [simp] mapOf_ids mapOf_mapId
theorem get_none {s : ByteArray} : ∀ {l : List Ba}, (∀ b ∈ l, b.1 ≠ s) → getS (mapOf l) s = none ∧ putS (mapOf l) s (.agg []) = mapOf l ++ [(s, .agg [])]
  | [], _ => ⟨rfl, rfl⟩
  | x :: l, h => by
    have hx : (s == x.1) = false := by rw [beq_bytes]; simpa using fun e => h x (by simp) e.symm
    obtain ⟨h1, h2⟩ := get_none (l := l) (s := s) fun b hb => h b (by simp [hb])
    have e : mapOf (x :: l) = (x.1, AV.agg []) :: mapOf l := rfl
    rw [e]
    simp [getS, putS, hx, h1, h2]
theorem get_some {s : ByteArray} : ∀ {l : List Ba}, (∃ b ∈ l, b.1 = s) → getS (mapOf l) s = some (.agg [])
  | [], h => by simp at h
  | x :: l, h => by
    have e : mapOf (x :: l) = (x.1, AV.agg []) :: mapOf l := rfl
    rw [e]
    by_cases hx : x.1 = s
    · have : (s == x.1) = true := by rw [beq_bytes]; simp [hx]
      simp [getS, this]
    · have h1 : (s == x.1) = false := by rw [beq_bytes]; simpa using fun e => hx e.symm
      simp only [getS, h1, Bool.false_eq_true, if_false]
      exact get_some (by
        obtain ⟨b, hb, hs⟩ := h
        rcases List.mem_cons.1 hb with rfl | hb
        · exact absurd hs hx
        · exact ⟨b, hb, hs⟩)
noncomputable def spSound : Spec := sp1 avBas okBas fun l => .v (.bool (soundB l))
set_option maxHeartbeats 8000000 in
theorem sound_ok : CallOk Try.prog 59 spSound := by
  refine ok_59 (Env.none_ok _) spSound (wb_sp1 ?_)
  rintro l ⟨hll, hok⟩
  simp only [avBas]
  unfold ac_59
  repeat' with_reducible first
  | refine stp ?_ | refine seg_both ?_ ?_ | refine seg_case (fun x h => ?_) (fun h => ?_) | refine seg_gate (fun h => ?_) (fun h => ?_) | refine seg_need ?_ ?_ | refine cond_v (fun h => ?_) (fun h => ?_)
  | refine seg_eval (by simp -dsimp -implicitDefEqProofs; rfl) ?_
  refine wp_loop' (fun j ts mm => ∃ i : Nat, i + j = l.length ∧ SoundL (l.take i) ∧
    ts = [(3, .v (.int .u16 (whoAll (l.take i) : Nat))), (4, .osl 0), (10, .fsl 2 (l.map avBa)), (11, .v (.int .i64 l.length)), (12, .v (.int .i64 i))] ∧ mm = [.map (mapOf (l.take i))]) l.length ?_ ?_
  · exact ⟨[], [0], by simp, by simp, 0, by omega, by simp [SoundL], by simp [whoAll], by simp [mapOf]⟩
  · rintro j ts mm ⟨i, hi, hso, rfl, rfl⟩
    by_cases hlt : i < l.length
    · obtain ⟨x, hx⟩ : ∃ x, l[i]? = some x := ⟨_, List.getElem?_eq_getElem (by omega)⟩
      have hd : decide ((i : Int) < (l.length : Int)) = true := by rw [decide_eq_true_eq]; omega
      have hd2 : decide (i < l.length) = true := by simp [hlt]
      have h64 : IntKind.wrap .i64 ((i : Int) + 1) = ((i + 1 : Nat) : Int) := by rw [IntWalk.i64_in _ (by omega)]; rfl
      have hxl := hok x (List.mem_of_getElem? hx)
      have hal := whoAll_lt (l := l.take i) fun b hb => hok b (List.mem_of_mem_take hb)
      have hor := or_nat (whoAll (l.take i)) x.2 hal hxl
      have han := and_nat (whoAll (l.take i)) x.2 hal hxl
      have htm := take_more hx
      have hst : whoAll (l.take (i + 1)) = whoAll (l.take i) ||| x.2 := by rw [htm, whoAll_snoc]
      have hmm : mapOf (l.take (i + 1)) = mapOf (l.take i) ++ [(x.1, .agg [])] := by rw [htm]; simp [mapOf]
      have hwa := who_and x.2 (l.take i)
      have hmore := sound_more (l := l.take i) (x := x)
      rw [← htm] at hmore
      generalize l.take i = L at *
      generalize whoAll L = wa at *
      obtain ⟨b, n⟩ := x
      simp only at hor hst han hxl hwa hmm hmore
      by_cases htw : ∃ c ∈ L, c.1 = b
      · have hg := get_some htw
        have hf : soundB l = false := by
          refine soundB_no fun h => ?_
          obtain ⟨c, hc, hcb⟩ := htw
          exact ((hmore.1 (sound_take (i + 1) h)).2 c hc).1 hcb
        rw [hf]
        repeat' with_reducible first
        | refine stp ?_ | refine seg_both ?_ ?_ | refine seg_case (fun x h => ?_) (fun h => ?_) | refine seg_gate (fun h => ?_) (fun h => ?_) | refine seg_need ?_ ?_ | refine cond_v (fun h => ?_) (fun h => ?_)
        | refine seg_eval (by simp -dsimp -implicitDefEqProofs [avBa, hd, hd2, hx, hg]; rfl) ?_
        all_goals first
          | omega
          | exact post_fin rfl rfl ⟨[], [], rfl, rfl, rfl, rfl⟩
          | trace_state
      · have hnb : ∀ c ∈ L, c.1 ≠ b := fun c hc he => htw ⟨c, hc, he⟩
        obtain ⟨hg, hput⟩ := get_none hnb
        by_cases hw : wa &&& n = 0
        · have hz : (((wa &&& n : Nat) : Int) != 0) = false := by simp [hw]
          have hso2 : SoundL (l.take (i + 1)) := hmore.2 ⟨hso, fun c hc => ⟨hnb c hc, hwa.1 hw c hc⟩⟩
          rw [← hmm] at hput
          repeat' with_reducible first
          | refine stp ?_ | refine seg_both ?_ ?_ | refine seg_case (fun x h => ?_) (fun h => ?_) | refine seg_gate (fun h => ?_) (fun h => ?_) | refine seg_need ?_ ?_ | refine cond_v (fun h => ?_) (fun h => ?_)
          | refine seg_eval (by simp -dsimp -implicitDefEqProofs [avBa, hd, hd2, h64, hx, hg, han, hz, hput, hor]; rfl) ?_
          all_goals first
            | omega
            | exact ⟨j - 1, by omega, [], [0], by simp, by simp, i + 1, by omega, hso2, by simp [avBa, hst], by simp⟩
            | trace_state
        · have hz : (((wa &&& n : Nat) : Int) != 0) = true := by rw [bne_iff_ne]; omega
          have hf : soundB l = false := by
            refine soundB_no fun h => ?_
            exact hw (hwa.2 fun c hc => ((hmore.1 (sound_take (i + 1) h)).2 c hc).2)
          rw [hf]
          repeat' with_reducible first
          | refine stp ?_ | refine seg_both ?_ ?_ | refine seg_case (fun x h => ?_) (fun h => ?_) | refine seg_gate (fun h => ?_) (fun h => ?_) | refine seg_need ?_ ?_ | refine cond_v (fun h => ?_) (fun h => ?_)
          | refine seg_eval (by simp -dsimp -implicitDefEqProofs [avBa, hd, hd2, hx, hg, han, hz]; rfl) ?_
          all_goals first
            | omega
            | exact post_fin rfl rfl ⟨[], [], rfl, rfl, rfl, rfl⟩
            | trace_state
    · have hd : decide ((i : Int) < (l.length : Int)) = false := by rw [decide_eq_false_iff_not]; omega
      have hd2 : decide (i < l.length) = false := by simp [hlt]
      have hil : l.take i = l := List.take_of_length_le (by omega)
      have hf : soundB l = true := soundB_iff.2 (by rw [← hil]; exact hso)
      rw [hf]
      repeat' with_reducible first
      | refine stp ?_ | refine seg_both ?_ ?_ | refine seg_case (fun x h => ?_) (fun h => ?_) | refine seg_gate (fun h => ?_) (fun h => ?_) | refine seg_need ?_ ?_ | refine cond_v (fun h => ?_) (fun h => ?_)
      | refine seg_eval (by simp -dsimp -implicitDefEqProofs [hd, hd2]; rfl) ?_
      all_goals first
        | omega
        | exact post_fin rfl rfl ⟨[], [], rfl, rfl, rfl, rfl⟩
        | trace_state
set_option maxHeartbeats 8000000 in
theorem soundR_ok : CallOk Try.prog 61 spSound := by
  refine ok_61 (Env.none_ok _) spSound (wb_sp1 ?_)
  rintro l ⟨hll, hok⟩
  simp only [avBas]
  unfold ac_61
  repeat' with_reducible first
  | refine stp ?_ | refine seg_both ?_ ?_ | refine seg_case (fun x h => ?_) (fun h => ?_) | refine seg_gate (fun h => ?_) (fun h => ?_) | refine seg_need ?_ ?_ | refine cond_v (fun h => ?_) (fun h => ?_)
  | refine seg_eval (by simp -dsimp -implicitDefEqProofs; rfl) ?_
  refine wp_loop' (fun j ts mm => ∃ i : Nat, i + j = l.length ∧ SoundL (l.take i) ∧ ts = [(0, .fsl 2 (l.map avBa)), (3, .v (.int .i64 i))] ∧ mm = []) l.length ?_ ?_
  · exact ⟨[], [], by simp, by simp, 0, by omega, by simp [SoundL], by simp, by simp⟩
  · rintro j ts mm ⟨i, hi, hso, rfl, rfl⟩
    by_cases hlt : i < l.length
    · obtain ⟨x, hx⟩ : ∃ x, l[i]? = some x := ⟨_, List.getElem?_eq_getElem (by omega)⟩
      have hd : decide ((i : Int) < (l.length : Int)) = true := by rw [decide_eq_true_eq]; omega
      have hd2 : decide (i < l.length) = true := by simp [hlt]
      have h64 : IntKind.wrap .i64 ((i : Int) + 1) = ((i + 1 : Nat) : Int) := by rw [IntWalk.i64_in _ (by omega)]; rfl
      have hxl := hok x (List.mem_of_getElem? hx)
      have htm := take_more hx
      have hmore := sound_more (l := l.take i) (x := x)
      rw [← htm] at hmore
      repeat' with_reducible first
      | refine stp ?_ | refine seg_both ?_ ?_ | refine seg_case (fun x h => ?_) (fun h => ?_) | refine seg_gate (fun h => ?_) (fun h => ?_) | refine seg_need ?_ ?_ | refine cond_v (fun h => ?_) (fun h => ?_)
      | refine seg_eval (by simp -dsimp -implicitDefEqProofs [hd, hd2]; rfl) ?_
      refine wp_loop' (fun j' ts mm => ∃ k : Nat, k + j' = i ∧ (∀ c ∈ l.take k, c.1 ≠ x.1 ∧ c.2 &&& x.2 = 0) ∧ ts = [(0, .fsl 2 (l.map avBa)), (3, .v (.int .i64 i)), (4, .v (.int .i64 k))] ∧ mm = []) i ?_ ?_
      · exact ⟨[], [], by simp, by simp, 0, by omega, by simp, by simp, by simp⟩
      · rintro j' ts mm ⟨k, hk, hpre, rfl, rfl⟩
        by_cases hkl : k < i
        · obtain ⟨y, hy⟩ : ∃ y, l[k]? = some y := ⟨_, List.getElem?_eq_getElem (by omega)⟩
          have kd : decide ((k : Int) < (i : Int)) = true := by rw [decide_eq_true_eq]; omega
          have kd2 : decide (k < i) = true := by simp [hkl]
          have k64 : IntKind.wrap .i64 ((k : Int) + 1) = ((k + 1 : Nat) : Int) := by rw [IntWalk.i64_in _ (by omega)]; rfl
          have hyl := hok y (List.mem_of_getElem? hy)
          have htk := take_more hy
          have han := and_nat x.2 y.2 hxl hyl
          have hym : y ∈ l.take i := List.mem_of_getElem? (by rw [List.getElem?_take, if_pos hkl]; exact hy)
          have hbad : ¬ (y.1 ≠ x.1 ∧ y.2 &&& x.2 = 0) → soundB l = false := fun h => by
            refine soundB_no fun hs => ?_
            exact h ((hmore.1 (sound_take (i + 1) hs)).2 y hym)
          obtain ⟨xb, xn⟩ := x
          obtain ⟨yb, yn⟩ := y
          simp only at han hbad hxl hyl
          by_cases hbb : xb = yb
          · have hb : (xb == yb) = true := by rw [beq_bytes]; simp [hbb]
            have hf := hbad fun h => h.1 hbb.symm
            rw [hf]
            repeat' with_reducible first
            | refine stp ?_ | refine seg_both ?_ ?_ | refine seg_case (fun x h => ?_) (fun h => ?_) | refine seg_gate (fun h => ?_) (fun h => ?_) | refine seg_need ?_ ?_ | refine cond_v (fun h => ?_) (fun h => ?_)
            | refine seg_eval (by simp -dsimp -implicitDefEqProofs [avBa, kd, kd2, hx, hy, hb]; rfl) ?_
            all_goals first
              | omega
              | exact post_fin rfl rfl ⟨[], [], rfl, rfl, rfl, rfl⟩
              | trace_state
          · have hb : (xb == yb) = false := by rw [beq_bytes]; simp [hbb]
            by_cases hw : xn &&& yn = 0
            · have hz : (((xn &&& yn : Nat) : Int) != 0) = false := by simp [hw]
              have hnx : ∀ c ∈ l.take (k + 1), c.1 ≠ xb ∧ c.2 &&& xn = 0 := by
                rw [htk]
                intro c hc
                rcases List.mem_append.1 hc with hc | hc
                · exact hpre c hc
                · rw [List.mem_singleton.1 hc]; exact ⟨fun e => hbb e.symm, by rw [Nat.and_comm]; exact hw⟩
              repeat' with_reducible first
              | refine stp ?_ | refine seg_both ?_ ?_ | refine seg_case (fun x h => ?_) (fun h => ?_) | refine seg_gate (fun h => ?_) (fun h => ?_) | refine seg_need ?_ ?_ | refine cond_v (fun h => ?_) (fun h => ?_)
              | refine seg_eval (by simp -dsimp -implicitDefEqProofs [avBa, kd, kd2, k64, hx, hy, hb, han, hz]; rfl) ?_
              all_goals first
                | omega
                | exact ⟨j' - 1, by omega, [], [], by simp, by simp, k + 1, by omega, hnx, by simp [avBa], by simp⟩
                | trace_state
            · have hz : (((xn &&& yn : Nat) : Int) != 0) = true := by rw [bne_iff_ne]; omega
              have hf := hbad fun h => hw (by rw [Nat.and_comm]; exact h.2)
              rw [hf]
              repeat' with_reducible first
              | refine stp ?_ | refine seg_both ?_ ?_ | refine seg_case (fun x h => ?_) (fun h => ?_) | refine seg_gate (fun h => ?_) (fun h => ?_) | refine seg_need ?_ ?_ | refine cond_v (fun h => ?_) (fun h => ?_)
              | refine seg_eval (by simp -dsimp -implicitDefEqProofs [avBa, kd, kd2, hx, hy, hb, han, hz]; rfl) ?_
              all_goals first
                | omega
                | exact post_fin rfl rfl ⟨[], [], rfl, rfl, rfl, rfl⟩
                | trace_state
        · have kd : decide ((k : Int) < (i : Int)) = false := by rw [decide_eq_false_iff_not]; omega
          have kd2 : decide (k < i) = false := by simp [hkl]
          have hki : k = i := by omega
          subst hki
          have hs2 := hmore.2 ⟨hso, hpre⟩
          repeat' with_reducible first
          | refine stp ?_ | refine seg_both ?_ ?_ | refine seg_case (fun x h => ?_) (fun h => ?_) | refine seg_gate (fun h => ?_) (fun h => ?_) | refine seg_need ?_ ?_ | refine cond_v (fun h => ?_) (fun h => ?_)
          | refine seg_eval (by simp -dsimp -implicitDefEqProofs [kd, kd2, h64]; rfl) ?_
          all_goals first
            | omega
            | exact ⟨j - 1, by omega, [], [], by simp, by simp, k + 1, by omega, hs2, by simp, by simp⟩
            | trace_state
    · have hd : decide ((i : Int) < (l.length : Int)) = false := by rw [decide_eq_false_iff_not]; omega
      have hd2 : decide (i < l.length) = false := by simp [hlt]
      have hil : l.take i = l := List.take_of_length_le (by omega)
      have hf : soundB l = true := soundB_iff.2 (by rw [← hil]; exact hso)
      rw [hf]
      repeat' with_reducible first
      | refine stp ?_ | refine seg_both ?_ ?_ | refine seg_case (fun x h => ?_) (fun h => ?_) | refine seg_gate (fun h => ?_) (fun h => ?_) | refine seg_need ?_ ?_ | refine cond_v (fun h => ?_) (fun h => ?_)
      | refine seg_eval (by simp -dsimp -implicitDefEqProofs [hd, hd2]; rfl) ?_
      all_goals first
        | omega
        | exact post_fin rfl rfl ⟨[], [], rfl, rfl, rfl, rfl⟩
        | trace_state
end Go.Proofs.Ytkbgndebfcjojaa.Am
