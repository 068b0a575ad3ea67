/-
  VOTES FOR A BODY, on both sides.
-/
import Derived.Test.YtkbgndebfcjojaaZW1
import Derived.Test.YtkbgndebfcjojaaZSCBa
import Derived.Test.YtkbgndebfcjojaaZQ6
namespace Go.Proofs.Ytkbgndebfcjojaa.Am
set_option linter.unusedSimpArgs false
set_option linter.unusedVariables false
open Go Go.Proofs
attribute [local irreducible] wpA
attribute [-simp] splice

def whoAll (l : List Ba) : Nat := l.foldl (fun a b => a ||| b.2) 0
def votedB (l : List Ba) (who : Nat) : Bool := l.any fun b => hasS b.2 who
def posB (l : List Ba) (s : ByteArray) : Option Nat := l.findIdx? fun b => b.1 == s
def idxB (l : List Ba) (s : ByteArray) : Int := match posB l s with
  | some i => (i : Int)
  | none => -1
def forB (l : List Ba) (s : ByteArray) : Nat := match posB l s with
  | some i => match l[i]? with
    | some b => b.2
    | none => 0
  | none => 0
def withB (l : List Ba) (who : Nat) (s : ByteArray) : List Ba := match posB l s with
  | some i => l.set i (s, withS (forB l s) who)
  | none => l ++ [(s, withS 0 who)]

theorem whoAll_snoc (l : List Ba) (b : Ba) : whoAll (l ++ [b]) = whoAll l ||| b.2 := by unfold whoAll; rw [List.foldl_append]; rfl
theorem has_or (a b i : Nat) : hasS (a ||| b) i = (hasS a i || hasS b i) := by unfold hasS; exact Nat.testBit_or a b i
theorem has_all (who : Nat) : ∀ l : List Ba, hasS (whoAll l) who = votedB l who := by
  intro l
  have : ∀ n, hasS (l.foldl (fun a b => a ||| b.2) n) who = (hasS n who || votedB l who) := by
    induction l with
    | nil => intro n; simp [votedB]
    | cons b l ih => intro n; simp only [List.foldl_cons]; rw [ih, has_or]; simp [votedB, Bool.or_assoc]
  have h := this 0
  rw [has_zero, Bool.false_or] at h
  exact h
theorem whoAll_lt {l : List Ba} (h : ∀ b ∈ l, b.2 < 65536) : whoAll l < 65536 := by
  unfold whoAll
  have : ∀ n, n < 65536 → l.foldl (fun a b => a ||| b.2) n < 65536 := by
    induction l with
    | nil => intro n hn; exact hn
    | cons b l ih => intro n hn; exact ih (fun x hx => h x (by simp [hx])) _ (Nat.or_lt_two_pow (n := 16) hn (h b (by simp)))
  exact this 0 (by omega)
theorem pos_some {l : List Ba} {s : ByteArray} {i : Nat} {b : Ba} (hx : l[i]? = some b) (h1 : ∀ (k : Nat) (x : Ba), k < i → l[k]? = some x → (x.1 == s) = false) (h2 : (b.1 == s) = true) : posB l s = some i := by
  obtain ⟨hlt, rfl⟩ := List.getElem?_eq_some_iff.1 hx
  refine List.findIdx?_eq_some_iff_getElem.2 ⟨hlt, h2, fun j hj => ?_⟩
  rw [h1 j l[j] hj (List.getElem?_eq_getElem (by omega))]
  simp
theorem pos_none {l : List Ba} {s : ByteArray} (h : ∀ (k : Nat) (x : Ba), l[k]? = some x → (x.1 == s) = false) : posB l s = none :=
  List.findIdx?_eq_none_iff.2 fun x hx => by obtain ⟨k, hk⟩ := List.mem_iff_getElem?.1 hx; exact h k x hk
theorem pos_at {l : List Ba} {s : ByteArray} {i : Nat} (h : posB l s = some i) : ∃ b, l[i]? = some b ∧ b.1 = s ∧ forB l s = b.2 := by
  obtain ⟨hlt, h2, _⟩ := List.findIdx?_eq_some_iff_getElem.1 h
  rw [beq_bytes, decide_eq_true_eq] at h2
  refine ⟨l[i], List.getElem?_eq_getElem hlt, h2, ?_⟩
  unfold forB
  rw [h]
  simp only [List.getElem?_eq_getElem hlt]
theorem pos_lt {l : List Ba} {s : ByteArray} {i : Nat} (h : posB l s = some i) : i < l.length := by
  obtain ⟨b, hb, _⟩ := pos_at h; exact (List.getElem?_eq_some_iff.1 hb).1
theorem for_lt {l : List Ba} (h : ∀ b ∈ l, b.2 < 65536) (s : ByteArray) : forB l s < 65536 := by
  cases hp : posB l s with
  | none => unfold forB; rw [hp]; simp
  | some i => obtain ⟨b, hb, _, e⟩ := pos_at hp; rw [e]; exact h b (List.mem_of_getElem? hb)
theorem for_with (l : List Ba) (who : Nat) (s : ByteArray) : forB (withB l who s) s = withS (forB l s) who := by
  have hss : (s == s) = true := by rw [beq_bytes]; simp
  cases hp : posB l s with
  | none =>
    have e : withB l who s = l ++ [(s, withS 0 who)] := by unfold withB; rw [hp]
    have e0 : forB l s = 0 := by unfold forB; rw [hp]
    have hn := List.findIdx?_eq_none_iff.1 hp
    have : posB (l ++ [(s, withS 0 who)]) s = some l.length := pos_some (b := (s, withS 0 who)) (by simp) (fun k x hk hx => by
      rw [List.getElem?_append_left hk] at hx; exact hn x (List.mem_of_getElem? hx)) hss
    rw [e, e0]
    unfold forB
    rw [this]
    simp
  | some i =>
    have e : withB l who s = l.set i (s, withS (forB l s) who) := by unfold withB; rw [hp]
    have hlt := pos_lt hp
    obtain ⟨_, _, hno⟩ := List.findIdx?_eq_some_iff_getElem.1 hp
    have : posB (l.set i (s, withS (forB l s) who)) s = some i := pos_some (b := (s, withS (forB l s) who)) (by rw [List.getElem?_set_self hlt]) (fun k x hk hx => by
      rw [List.getElem?_set_ne (by omega)] at hx
      have := hno k hk
      obtain ⟨h1, rfl⟩ := List.getElem?_eq_some_iff.1 hx
      simpa using this) hss
    rw [e]
    generalize withS (forB l s) who = n at this ⊢
    unfold forB
    rw [this]
    simp only
    rw [List.getElem?_set_self hlt]
theorem ok_with {l : List Ba} (h : ∀ b ∈ l, b.2 < 65536) (who : Nat) (s : ByteArray) : ∀ b ∈ withB l who s, b.2 < 65536 := by
  intro b hb
  unfold withB at hb
  split at hb
  · rcases List.mem_or_eq_of_mem_set hb with hb | rfl
    · exact h b hb
    · exact withS_lt (for_lt h s) who
  · rcases List.mem_append.1 hb with hb | hb
    · exact h b hb
    · rw [List.mem_singleton.1 hb]; exact withS_lt (by omega) who
theorem len_with (l : List Ba) (who : Nat) (s : ByteArray) : (withB l who s).length ≤ l.length + 1 := by
  unfold withB
  split
  · simp
  · simp

noncomputable def spAt1 : Spec
  | [x, .fptr (.agg [.v (.string s)]) 0], [] => match un avBa x with
    | some b => some (.ret (.v (.bool (b.1 == s))), [])
    | _ => none
  | _, _ => none
theorem at1_ok : CallOk Try.prog 80 spAt1 := by
  refine ok_80 (Env.none_ok _) spAt1 fun args mem r mem1 h => ?_
  unfold spAt1 at h
  split at h
  case h_2 => cases h
  rename_i x s
  split at h
  case h_2 => cases h
  rename_i b hb
  cases h
  rw [un_some hb]
  simp only [avBa]
  unfold ac_80
  repeat' with_reducible first
  | refine stp ?_ | refine seg_both ?_ ?_ | refine seg_case (fun x h => ?_) (fun h => ?_) | refine seg_gate (fun h => ?_) (fun h => ?_) | refine seg_need ?_ ?_ | refine cond_v (fun h => ?_) (fun h => ?_)
  | refine seg_eval (by simp -dsimp -implicitDefEqProofs; rfl) ?_
  all_goals first
    | exact post_fin rfl rfl ⟨[], [], rfl, rfl, rfl, rfl⟩
    | trace_state
noncomputable def spIdxB : Spec
  | [x, .fn 80 [.fptr (.agg [.v (.string s)]) 0]], [] => match un avBas x with
    | some l => if l.length ≤ 1000001 then some (.ret (.v (.int .i64 (idxB l s))), []) else none
    | _ => none
  | _, _ => none
set_option maxHeartbeats 4000000 in
theorem idxB_ok : CallOk Try.prog 79 spIdxB := by
  refine ok_79 (Env.put_ok [] (Env.none_ok _) at1_ok) spIdxB fun args mem r mem1 h => ?_
  unfold spIdxB at h
  split at h
  case h_2 => cases h
  rename_i x s
  split at h
  case h_2 => cases h
  rename_i l hl
  obtain ⟨hll, h2⟩ := if_some h
  cases h2
  rw [un_some hl]
  simp only [avBas]
  unfold ac_79
  repeat' with_reducible first
  | refine stp ?_ | refine seg_both ?_ ?_ | refine seg_case (fun x h => ?_) (fun h => ?_) | refine seg_gate (fun h => ?_) (fun h => ?_) | refine seg_need ?_ ?_ | refine cond_v (fun h => ?_) (fun h => ?_)
  | refine seg_eval (by simp -dsimp -implicitDefEqProofs; rfl) ?_
  refine wp_loop' (fun j ts mm => ∃ i : Nat, i + j = l.length ∧ (∀ (k : Nat) (x : Ba), k < i → l[k]? = some x → (x.1 == s) = false) ∧
    ts = [(0, .fsl 2 (l.map avBa)), (1, .fn 80 [.fptr (.agg [.v (.string s)]) 0]), (7, .v (.int .i64 l.length)), (8, .v (.int .i64 i))] ∧ mm = []) l.length ?_ ?_
  · exact ⟨[], [], by simp, by simp, 0, by omega, fun k x hk => by omega, by simp, by simp⟩
  · rintro j ts mm ⟨i, hi, hlo, rfl, rfl⟩
    by_cases hlt : i < l.length
    · obtain ⟨x, hx⟩ : ∃ x, l[i]? = some x := ⟨_, List.getElem?_eq_getElem (by omega)⟩
      have hd : decide ((i : Int) < (l.length : Int)) = true := by rw [decide_eq_true_eq]; omega
      have hd2 : decide (i < l.length) = true := by simp [hlt]
      have h64 : IntKind.wrap .i64 ((i : Int) + 1) = ((i + 1 : Nat) : Int) := by rw [IntWalk.i64_in _ (by omega)]; rfl
      cases hg : (x.1 == s)
      · have hlo2 : ∀ (k : Nat) (y : Ba), k < i + 1 → l[k]? = some y → (y.1 == s) = false := fun k y hk hy => by
          by_cases hki : k = i
          · subst hki; rw [hx] at hy; cases hy; exact hg
          · exact hlo k y (by omega) hy
        obtain ⟨b, w⟩ := x
        simp only at hg
        repeat' with_reducible first
        | refine stp ?_ | refine seg_both ?_ ?_ | refine seg_case (fun x h => ?_) (fun h => ?_) | refine seg_gate (fun h => ?_) (fun h => ?_) | refine seg_need ?_ ?_ | refine cond_v (fun h => ?_) (fun h => ?_)
        | refine seg_eval (by simp -dsimp -implicitDefEqProofs [avBa, hd, hd2, h64, hx, hg, spAt1]; rfl) ?_
        all_goals first
          | omega
          | exact ⟨j - 1, by omega, [], [], by simp, by simp, i + 1, by omega, hlo2, by simp [avBa], by simp⟩
          | trace_state
      · have he : idxB l s = (i : Int) := by unfold idxB; rw [pos_some hx hlo hg]
        rw [he]
        obtain ⟨b, w⟩ := x
        simp only at hg
        repeat' with_reducible first
        | refine stp ?_ | refine seg_both ?_ ?_ | refine seg_case (fun x h => ?_) (fun h => ?_) | refine seg_gate (fun h => ?_) (fun h => ?_) | refine seg_need ?_ ?_ | refine cond_v (fun h => ?_) (fun h => ?_)
        | refine seg_eval (by simp -dsimp -implicitDefEqProofs [avBa, hd, hd2, h64, hx, hg, spAt1]; rfl) ?_
        all_goals first
          | omega
          | exact post_fin rfl rfl ⟨[], [], rfl, rfl, rfl, rfl⟩
          | trace_state
    · have hd : decide ((i : Int) < (l.length : Int)) = false := by rw [decide_eq_false_iff_not]; omega
      have hd2 : decide (i < l.length) = false := by simp [hlt]
      have he : idxB l s = -1 := by unfold idxB; rw [pos_none fun k x hk => hlo k x (by have := (List.getElem?_eq_some_iff.1 hk).1; omega) hk]
      rw [he]
      repeat' with_reducible first
      | refine stp ?_ | refine seg_both ?_ ?_ | refine seg_case (fun x h => ?_) (fun h => ?_) | refine seg_gate (fun h => ?_) (fun h => ?_) | refine seg_need ?_ ?_ | refine cond_v (fun h => ?_) (fun h => ?_)
      | refine seg_eval (by simp -dsimp -implicitDefEqProofs [hd, hd2]; rfl) ?_
      all_goals first
        | omega
        | exact post_fin rfl rfl ⟨[], [], rfl, rfl, rfl, rfl⟩
        | trace_state
noncomputable def spAtB : Spec := sp2 avBas avS (fun l _ => l.length ≤ 1000001) (fun l s => .v (.int .i64 (idxB l s)))
theorem atB_ok : CallOk Try.prog 66 spAtB := by
  refine ok_66 (Env.put_ok [] (Env.none_ok _) idxB_ok) spAtB (wb_sp2 ?_)
  intro l s hl
  simp only [avBas, avS]
  unfold ac_66
  repeat' with_reducible first
  | refine stp ?_ | refine seg_both ?_ ?_ | refine seg_case (fun x h => ?_) (fun h => ?_) | refine seg_gate (fun h => ?_) (fun h => ?_) | refine seg_need ?_ ?_ | refine cond_v (fun h => ?_) (fun h => ?_)
  | refine seg_eval (by simp -dsimp -implicitDefEqProofs [spIdxB, hl]; rfl) ?_
  all_goals first
    | omega
    | exact post_fin rfl rfl ⟨[], [], rfl, rfl, rfl, rfl⟩
    | trace_state
end Go.Proofs.Ytkbgndebfcjojaa.Am
