/-
  The law ScriptSteps: each step is of a kind, and has what its kind has alone.
-/
import Derived.Test.YtajpaagbfmjacaaGreatDoorZS4
namespace Go.Proofs.YtajpaagbfmjacaaGreatDoor.Am
set_option linter.unusedSimpArgs false
set_option linter.unusedVariables false
open Go Go.Proofs
attribute [local irreducible] wpA
attribute [-simp] splice

def okStp (s : Stp) : Prop :=
  (∃ (a : Int) (c : UInt8), s = ⟨1, a, 0, 0, 0, 0, 0, ⟨#[c]⟩, false, 0⟩) ∨ (∃ (a i : Int) (d : Bool), i ≤ 15 ∧ s = ⟨2, a, 0, 0, 0, 0, 0, ⟨#[]⟩, d, i⟩) ∨
  (∃ (a b k f q : Int) (t : ByteArray), s = ⟨6, a, b, 0, k, f, q, t, false, 0⟩) ∨ (∃ w x : Int, 3 ≤ w ∧ w ≤ 5 ∧ x ≤ 255 ∧ s = ⟨w, 0, 0, x, 0, 0, 0, ⟨#[]⟩, false, 0⟩)
theorem stpB_ok {w : Nat} {b : List UInt8} (h0 : w ≠ 0) (h7 : w < 7) : okStp (stpB w b) := by
  unfold stpB
  by_cases h1 : w = 1
  · subst h1; exact .inl ⟨_, _, rfl⟩
  by_cases h2 : w = 2
  · subst h2; exact .inr (.inl ⟨_, _, _, by omega, rfl⟩)
  by_cases h6 : w = 6
  · subst h6; exact .inr (.inr (.inl ⟨_, _, _, _, _, _, rfl⟩))
  simp only [h1, h2, h6, if_false]
  refine .inr (.inr (.inr ⟨w, _, by omega, by omega, ?_, rfl⟩))
  have := (b.getD 0 0).toNat_lt
  omega
theorem decS_okS (m : Nat) (r : List UInt8) : ∀ s ∈ decS r m, okStp s := by
  induction h : r.length using Nat.strongRecOn generalizing r m with
  | ind n ih =>
    cases r with
    | nil => simp [decS_nil]
    | cons x r =>
      simp only [List.length_cons] at h
      by_cases hw : x.toNat % 7 = 0
      · rw [decS_zero hw]; exact ih r.length (by omega) m r rfl
      · by_cases hl : r.length < sizS ((x.toNat % 7 : Nat) : Int)
        · rw [decS_short hw hl]; simp
        · by_cases hm : m = 0
          · subst hm; rw [decS_full]; simp
          · rw [decS_one hw hl hm]
            intro s hs
            rcases List.mem_cons.1 hs with rfl | hs
            · exact stpB_ok hw (Nat.mod_lt _ (by decide))
            · exact ih (r.drop (sizS ((x.toNat % 7 : Nat) : Int))).length (by simp; omega) (m - 1) _ rfl s hs

def spOurs : Spec
  | [.agg [.v (.int .i64 w), .v (.int .u8 a), .v (.int .u8 b), .v (.int .i64 at_), .v (.int .i64 k), .v (.int .i64 v), .v (.int .u8 f), .v (.int .i64 q), .v (.string t), .v (.bool d), .v (.int .u8 i)]], [] =>
    some (.ret (.agg [.v (.int .i64 w), .v (.int .u8 a), .v (.int .u8 b), .v (.int .i64 at_), .v (.int .i64 k), .v (.int .i64 v), .v (.int .u8 f), .v (.int .i64 q), .v (.string t), .v (.bool d), .v (.int .u8 i)]), [])
  | _, _ => none
theorem ours_ok : CallOk Tryz.prog 11 spOurs := by
  refine ok_11 (Env.none_ok _) spOurs fun args mem r mem1 h => ?_
  unfold spOurs at h
  split at h
  case h_2 => cases h
  cases h
  unfold ac_11
  repeat' with_reducible first
  | refine stp ?_ | refine seg_both ?_ ?_ | refine seg_case (fun x h => ?_) (fun h => ?_) | refine seg_gate (fun h => ?_) (fun h => ?_) | refine seg_need ?_ ?_ | refine cond_v (fun h => ?_) (fun h => ?_)
  | refine seg_eval (by simp -dsimp -implicitDefEqProofs; rfl) ?_
  all_goals exact post_fin rfl rfl ⟨[], [], rfl, rfl, rfl, rfl⟩

def E36 : Env := E35.put 11 [] spOurs
theorem E36_ok : EnvOk Tryz.prog E36 := Env.put_ok _ E35_ok ours_ok
attribute [simp] E36 spOurs
def spBytes : Spec
  | [.fsl 1 es], [] => (inB es).bind fun _ => some (.ret (.v (.bool true)), [])
  | _, _ => none
set_option maxHeartbeats 16000000 in
theorem steps_ok : CallOk Tryz.prog 5 spBytes := by
  refine ok_5 E36_ok spBytes fun args mem r mem1 h => ?_
  unfold spBytes at h
  split at h
  case h_2 => cases h
  rename_i es
  obtain ⟨l, hl, h1⟩ := Option.bind_eq_some_iff.1 h
  clear h
  have := inB_some es l hl
  subst this
  clear hl
  cases h1
  unfold ac_5
  have hin := inB_bv l
  by_cases hbig : 2000 < l.length
  · have k1 : decide ((2000 : Int) < ((l.length : Nat) : Int)) = true := by rw [decide_eq_true_eq]; omega
    have k2 : decide (2000 < l.length) = true := by simp [hbig]
    repeat' with_reducible first
    | refine stp ?_ | refine seg_both ?_ ?_ | refine seg_case (fun x h => ?_) (fun h => ?_) | refine seg_gate (fun h => ?_) (fun h => ?_) | refine seg_need ?_ ?_ | refine cond_v (fun h => ?_) (fun h => ?_)
    | refine seg_eval (by simp -dsimp -implicitDefEqProofs [k1, k2]; rfl) ?_
    all_goals first
      | omega
      | exact post_fin rfl rfl ⟨[], [], rfl, rfl, rfl, rfl⟩
      | trace_state
  · have k1 : decide ((2000 : Int) < ((l.length : Nat) : Int)) = false := by rw [decide_eq_false_iff_not]; omega
    have k2 : decide (2000 < l.length) = false := by simp [hbig]
    have hll : l.length ≤ 1000000 := by omega
    have hoks := decS_okS 300 l
    have hlen := decS_len 300 l
    obtain ⟨A, hA⟩ : ∃ A, A = decS l 300 := ⟨_, rfl⟩
    rw [← hA] at hlen hoks
    repeat' with_reducible first
    | refine stp ?_ | refine seg_both ?_ ?_ | refine seg_case (fun x h => ?_) (fun h => ?_) | refine seg_gate (fun h => ?_) (fun h => ?_) | refine seg_need ?_ ?_ | refine cond_v (fun h => ?_) (fun h => ?_)
    | refine seg_eval (by simp -dsimp -implicitDefEqProofs [k1, k2, hll, hin, ← hA]; rfl) ?_
    refine wp_loop' (fun j ts mm => ∃ i : Nat, i + j = A.length ∧ ts = [(13, .fsl 11 (A.map avStp)), (14, .v (.int .i64 A.length)), (15, .v (.int .i64 i))] ∧ mm = []) A.length ?_ ?_
    · exact ⟨[], [], by simp, rfl, 0, by omega, by simp, rfl⟩
    · rintro j ts mm ⟨i, hij, rfl, rfl⟩
      by_cases hlt : i < A.length
      · obtain ⟨x, hx⟩ : ∃ x, A[i]? = some x := ⟨_, List.getElem?_eq_getElem hlt⟩
        have hd : decide ((i : Int) < ((A.length : Nat) : Int)) = true := by rw [decide_eq_true_eq]; omega
        have hd2 : decide (i < A.length) = true := by simp [hlt]
        have h64 : IntKind.wrap .i64 ((i : Int) + 1) = ((i + 1 : Nat) : Int) := by rw [IntWalk.i64_in _ (by omega)]; rfl
        rcases hoks x (List.mem_of_getElem? hx) with ⟨a, c, rfl⟩ | ⟨a, i', d, hi', rfl⟩ | ⟨a, b, k, f, q, t, rfl⟩ | ⟨w, y, hw3, hw5, hy, rfl⟩
        · have hsz : (⟨#[c]⟩ : ByteArray).size = 1 := rfl
          have ht : ((⟨#[c]⟩ : ByteArray) == ⟨#[c]⟩) = true := by rw [beq_bytes]; simp
          repeat' with_reducible first
          | refine stp ?_ | refine seg_both ?_ ?_ | refine seg_case (fun x h => ?_) (fun h => ?_) | refine seg_gate (fun h => ?_) (fun h => ?_) | refine seg_need ?_ ?_ | refine cond_v (fun h => ?_) (fun h => ?_)
          | refine seg_eval (by simp -dsimp -implicitDefEqProofs [hd, hd2, hx, avStp, h64, hsz, ht]; rfl) ?_
          all_goals first
            | omega
            | exact ⟨j - 1, by omega, [], [], by simp, rfl, i + 1, by omega, by simp, by simp⟩
            | trace_state
        · have hi2 : decide ((15 : Int) < i') = false := by rw [decide_eq_false_iff_not]; omega
          have ht : ((⟨#[]⟩ : ByteArray) == ⟨#[]⟩) = true := by rw [beq_bytes]; simp
          repeat' with_reducible first
          | refine stp ?_ | refine seg_both ?_ ?_ | refine seg_case (fun x h => ?_) (fun h => ?_) | refine seg_gate (fun h => ?_) (fun h => ?_) | refine seg_need ?_ ?_ | refine cond_v (fun h => ?_) (fun h => ?_)
          | refine seg_eval (by simp -dsimp -implicitDefEqProofs [hd, hd2, hx, avStp, h64, hi2, ht]; rfl) ?_
          all_goals first
            | omega
            | exact ⟨j - 1, by omega, [], [], by simp, rfl, i + 1, by omega, by simp, by simp⟩
            | trace_state
        · have ht : (t == t) = true := by rw [beq_bytes]; simp
          repeat' with_reducible first
          | refine stp ?_ | refine seg_both ?_ ?_ | refine seg_case (fun x h => ?_) (fun h => ?_) | refine seg_gate (fun h => ?_) (fun h => ?_) | refine seg_need ?_ ?_ | refine cond_v (fun h => ?_) (fun h => ?_)
          | refine seg_eval (by simp -dsimp -implicitDefEqProofs [hd, hd2, hx, avStp, h64, ht]; rfl) ?_
          all_goals first
            | omega
            | exact ⟨j - 1, by omega, [], [], by simp, rfl, i + 1, by omega, by simp, by simp⟩
            | trace_state
        · have g1 : (w == (1 : Int)) = false := by simp; omega
          have g2 : (w == (2 : Int)) = false := by simp; omega
          have g6 : (w == (6 : Int)) = false := by simp; omega
          have q1 : decide (w < 1) = false := by rw [decide_eq_false_iff_not]; omega
          have q2 : decide (6 < w) = false := by rw [decide_eq_false_iff_not]; omega
          have q3 : decide ((255 : Int) < y) = false := by rw [decide_eq_false_iff_not]; omega
          have ht : ((⟨#[]⟩ : ByteArray) == ⟨#[]⟩) = true := by rw [beq_bytes]; simp
          repeat' with_reducible first
          | refine stp ?_ | refine seg_both ?_ ?_ | refine seg_case (fun x h => ?_) (fun h => ?_) | refine seg_gate (fun h => ?_) (fun h => ?_) | refine seg_need ?_ ?_ | refine cond_v (fun h => ?_) (fun h => ?_)
          | refine seg_eval (by simp -dsimp -implicitDefEqProofs [hd, hd2, hx, avStp, h64, g1, g2, g6, q1, q2, q3, ht]; rfl) ?_
          all_goals first
            | omega
            | exact ⟨j - 1, by omega, [], [], by simp, rfl, i + 1, by omega, by simp, by simp⟩
            | trace_state
      · have hd : decide ((i : Int) < ((A.length : Nat) : Int)) = false := by rw [decide_eq_false_iff_not]; omega
        have hd2 : decide (i < A.length) = false := by simp [hlt]
        repeat' with_reducible first
        | refine stp ?_ | refine seg_both ?_ ?_ | refine seg_case (fun x h => ?_) (fun h => ?_) | refine seg_gate (fun h => ?_) (fun h => ?_) | refine seg_need ?_ ?_ | refine cond_v (fun h => ?_) (fun h => ?_)
        | refine seg_eval (by simp -dsimp -implicitDefEqProofs [hd, hd2]; rfl) ?_
        all_goals first
          | omega
          | exact post_fin rfl rfl ⟨[], [], rfl, rfl, rfl, rfl⟩
          | trace_state
end Go.Proofs.YtajpaagbfmjacaaGreatDoor.Am
