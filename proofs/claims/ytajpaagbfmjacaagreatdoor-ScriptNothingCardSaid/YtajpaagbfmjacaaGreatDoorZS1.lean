/-
  STEPS OF A SCRIPT: what they are, plainly; what a corrupt one says; how many bytes a step has.
-/
import Derived.Test.YtajpaagbfmjacaaGreatDoorZQ7
import Derived.Test.YtajpaagbfmjacaaGreatDoorZCodeS
namespace Go.Proofs.YtajpaagbfmjacaaGreatDoor.Am
set_option linter.unusedSimpArgs false
set_option linter.unusedVariables false
open Go Go.Proofs
attribute [local irreducible] wpA
attribute [-simp] splice

/-! ### Plainly -/
structure Stp where
  w : Int
  a : Int
  b : Int
  at_ : Int
  k : Int
  f : Int
  q : Int
  t : ByteArray
  add : Bool
  id : Int
def avStp (s : Stp) : AV := .agg [.v (.int .i64 s.w), .v (.int .u8 s.a), .v (.int .u8 s.b), .v (.int .i64 s.at_), .v (.int .i64 s.k), .v (.int .i64 0), .v (.int .u8 s.f), .v (.int .i64 s.q), .v (.string s.t), .v (.bool s.add), .v (.int .u8 s.id)]
def fgV (f q : Nat) : List Nat := if f < 16 then zV.set f q else zV
theorem zV_len : zV.length = 16 := rfl
theorem zV_mem {n : Nat} (h : n ∈ zV) : n = 0 := List.eq_of_mem_replicate (n := 16) h
def fgS (f q c : Nat) : ByteArray := bdS ⟨1, fgV f q, ⟨#[UInt8.ofNat c]⟩⟩
def sizS (w : Int) : Nat := if w = 1 ∨ w = 2 then 2 else if w = 6 then 6 else 1

theorem fgV_ok {f q : Nat} (hq : q < 65536) : okV (fgV f q) := by
  unfold fgV
  split
  · refine ⟨by simp [zV_len], fun n hn => ?_⟩
    rcases List.mem_or_eq_of_mem_set hn with h | h
    · have := zV_mem h; omega
    · omega
  · exact ⟨zV_len, fun n hn => by have := zV_mem hn; omega⟩

/-! ### How many bytes -/
def spSiz : Spec
  | [.v (.int .i64 w)], [] => some (.ret (.v (.int .i64 (sizS w))), [])
  | _, _ => none
theorem size_ok : CallOk Tryz.prog 23 spSiz := by
  refine ok_23 (Env.none_ok _) spSiz fun args mem r mem1 h => ?_
  unfold spSiz at h
  split at h
  case h_2 => cases h
  rename_i w
  cases h
  unfold ac_23
  by_cases h1 : w = 1
  · subst h1
    have e : (sizS 1 : Int) = 2 := rfl
    rw [e]
    repeat' with_reducible first
    | refine stp ?_ | refine seg_both ?_ ?_ | refine seg_case (fun x h => ?_) (fun h => ?_) | refine seg_gate (fun h => ?_) (fun h => ?_) | refine seg_need ?_ ?_ | refine cond_v (fun h => ?_) (fun h => ?_)
    | refine seg_eval (by simp -dsimp -implicitDefEqProofs; rfl) ?_
    all_goals exact post_fin rfl rfl ⟨[], [], rfl, rfl, rfl, rfl⟩
  by_cases h2 : w = 2
  · subst h2
    have e : (sizS 2 : Int) = 2 := rfl
    rw [e]
    repeat' with_reducible first
    | refine stp ?_ | refine seg_both ?_ ?_ | refine seg_case (fun x h => ?_) (fun h => ?_) | refine seg_gate (fun h => ?_) (fun h => ?_) | refine seg_need ?_ ?_ | refine cond_v (fun h => ?_) (fun h => ?_)
    | refine seg_eval (by simp -dsimp -implicitDefEqProofs; rfl) ?_
    all_goals exact post_fin rfl rfl ⟨[], [], rfl, rfl, rfl, rfl⟩
  by_cases h6 : w = 6
  · subst h6
    have e : (sizS 6 : Int) = 6 := rfl
    rw [e]
    repeat' with_reducible first
    | refine stp ?_ | refine seg_both ?_ ?_ | refine seg_case (fun x h => ?_) (fun h => ?_) | refine seg_gate (fun h => ?_) (fun h => ?_) | refine seg_need ?_ ?_ | refine cond_v (fun h => ?_) (fun h => ?_)
    | refine seg_eval (by simp -dsimp -implicitDefEqProofs; rfl) ?_
    all_goals exact post_fin rfl rfl ⟨[], [], rfl, rfl, rfl, rfl⟩
  have e : sizS w = 1 := by simp [sizS, h1, h2, h6]
  rw [e]
  have g1 : (w == (1 : Int)) = false := by simp [h1]
  have g2 : (w == (2 : Int)) = false := by simp [h2]
  have g6 : (w == (6 : Int)) = false := by simp [h6]
  repeat' with_reducible first
  | refine stp ?_ | refine seg_both ?_ ?_ | refine seg_case (fun x h => ?_) (fun h => ?_) | refine seg_gate (fun h => ?_) (fun h => ?_) | refine seg_need ?_ ?_ | refine cond_v (fun h => ?_) (fun h => ?_)
  | refine seg_eval (by simp -dsimp -implicitDefEqProofs [g1, g2, g6]; rfl) ?_
  all_goals exact post_fin rfl rfl ⟨[], [], rfl, rfl, rfl, rfl⟩

/-! ### What a corrupt one says -/
def spFg : Spec
  | [.agg [.v (.int .i64 _), .v (.int .u8 f), .v (.int .i64 q)], .v (.int .u8 c)], [] => if 0 ≤ f ∧ f < 256 ∧ 0 ≤ q ∧ q < 256 ∧ 0 ≤ c ∧ c < 256 then some (.ret (.v (.string (fgS f.toNat q.toNat c.toNat))), []) else none
  | _, _ => none
set_option maxHeartbeats 4000000 in
theorem forged_ok : CallOk Tryz.prog 40 spFg := by
  refine ok_40 E32_ok spFg fun args mem r mem1 h => ?_
  unfold spFg at h
  split at h
  case h_2 => cases h
  rename_i v f q c
  obtain ⟨⟨f0, f1, q0, q1, c0, c1⟩, h2⟩ := if_some h
  cases h2
  clear h
  obtain ⟨f, rfl⟩ := Int.eq_ofNat_of_zero_le f0
  obtain ⟨q, rfl⟩ := Int.eq_ofNat_of_zero_le q0
  obtain ⟨c, rfl⟩ := Int.eq_ofNat_of_zero_le c0
  simp only [Int.toNat_natCast]
  have hw : IntKind.wrap .u16 (q : Int) = (q : Int) := by rw [IntKind.wrap_u16]; omega
  have hok := fgV_ok (f := f) (q := q) (by omega)
  have hb : bytesOf [AV.v (.int .u8 (c : Int))] = some [UInt8.ofNat c] := by simp [bytesOf]
  unfold ac_40
  by_cases hf : f < 16
  · have d1 : decide ((f : Int) < 16) = true := by rw [decide_eq_true_eq]; omega
    have d2 : decide (f < 16) = true := by simp [hf]
    have hv : fgV f q = zV.set f q := by simp [fgV, hf]
    have hl : f < zV.length := by rw [zV_len]; exact hf
    unfold fgS
    rw [hv] at hok ⊢
    have hle : 1 + f + 1 ≤ 18 := by omega
    repeat' with_reducible first
    | refine stp ?_ | refine seg_both ?_ ?_ | refine seg_case (fun x h => ?_) (fun h => ?_) | refine seg_gate (fun h => ?_) (fun h => ?_) | refine seg_need ?_ ?_ | refine cond_v (fun h => ?_) (fun h => ?_)
    | refine seg_eval (by simp -dsimp -implicitDefEqProofs [d1, d2, hb, hw, hok, hf, hl, hle, Int.toNat_natCast]; rfl) ?_
    all_goals first
      | omega
      | exact hok
      | exact post_fin rfl rfl ⟨[], [], rfl, rfl, rfl, rfl⟩
      | trace_state
  · have d1 : decide ((f : Int) < 16) = false := by rw [decide_eq_false_iff_not]; omega
    have d2 : decide (f < 16) = false := by simp [hf]
    have hv : fgV f q = zV := by simp [fgV, hf]
    unfold fgS
    rw [hv] at hok ⊢
    repeat' with_reducible first
    | refine stp ?_ | refine seg_both ?_ ?_ | refine seg_case (fun x h => ?_) (fun h => ?_) | refine seg_gate (fun h => ?_) (fun h => ?_) | refine seg_need ?_ ?_ | refine cond_v (fun h => ?_) (fun h => ?_)
    | refine seg_eval (by simp -dsimp -implicitDefEqProofs [d1, d2, hb, hok, Int.toNat_natCast]; rfl) ?_
    all_goals first
      | omega
      | exact hok
      | exact post_fin rfl rfl ⟨[], [], rfl, rfl, rfl, rfl⟩
      | trace_state
end Go.Proofs.YtajpaagbfmjacaaGreatDoor.Am
