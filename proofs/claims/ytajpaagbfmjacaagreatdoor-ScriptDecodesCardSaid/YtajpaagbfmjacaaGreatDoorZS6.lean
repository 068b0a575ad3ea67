/-
  STEPS OUT OF BYTES: the document's side.
-/
import Derived.Test.YtajpaagbfmjacaaGreatDoorZS5
namespace Go.Proofs.YtajpaagbfmjacaaGreatDoor.Am
set_option linter.unusedSimpArgs false
set_option linter.unusedVariables false
open Go Go.Proofs
attribute [local irreducible] wpA
attribute [-simp] splice

def spSizR : Spec
  | [.v (.int .i64 w)], [] => some (.ret (.v (.int .i64 ((sizS w + 1 : Nat) : Int))), [])
  | _, _ => none
theorem sizeR_ok : CallOk Tryz.prog 25 spSizR := by
  refine ok_25 (Env.none_ok _) spSizR fun args mem r mem1 h => ?_
  unfold spSizR at h
  split at h
  case h_2 => cases h
  rename_i w
  cases h
  unfold ac_25
  by_cases h1 : w = 1
  · subst h1
    have e : ((sizS 1 + 1 : Nat) : Int) = 3 := rfl
    rw [e]
    repeat' with_reducible first
    | refine stp ?_ | refine seg_both ?_ ?_ | refine seg_case (fun x h => ?_) (fun h => ?_) | refine seg_gate (fun h => ?_) (fun h => ?_) | refine seg_need ?_ ?_ | refine cond_v (fun h => ?_) (fun h => ?_)
    | refine seg_eval (by simp -dsimp -implicitDefEqProofs; rfl) ?_
    all_goals exact post_fin rfl rfl ⟨[], [], rfl, rfl, rfl, rfl⟩
  by_cases h2 : w = 2
  · subst h2
    have e : ((sizS 2 + 1 : Nat) : Int) = 3 := rfl
    rw [e]
    repeat' with_reducible first
    | refine stp ?_ | refine seg_both ?_ ?_ | refine seg_case (fun x h => ?_) (fun h => ?_) | refine seg_gate (fun h => ?_) (fun h => ?_) | refine seg_need ?_ ?_ | refine cond_v (fun h => ?_) (fun h => ?_)
    | refine seg_eval (by simp -dsimp -implicitDefEqProofs; rfl) ?_
    all_goals exact post_fin rfl rfl ⟨[], [], rfl, rfl, rfl, rfl⟩
  by_cases h6 : w = 6
  · subst h6
    have e : ((sizS 6 + 1 : Nat) : Int) = 7 := rfl
    rw [e]
    repeat' with_reducible first
    | refine stp ?_ | refine seg_both ?_ ?_ | refine seg_case (fun x h => ?_) (fun h => ?_) | refine seg_gate (fun h => ?_) (fun h => ?_) | refine seg_need ?_ ?_ | refine cond_v (fun h => ?_) (fun h => ?_)
    | refine seg_eval (by simp -dsimp -implicitDefEqProofs; rfl) ?_
    all_goals exact post_fin rfl rfl ⟨[], [], rfl, rfl, rfl, rfl⟩
  have e : ((sizS w + 1 : Nat) : Int) = 2 := by simp [sizS, h1, h2, h6]
  rw [e]
  have g1 : (w == (1 : Int)) = false := by simp [h1]
  have g2 : (w == (2 : Int)) = false := by simp [h2]
  have g6 : (w == (6 : Int)) = false := by simp [h6]
  repeat' with_reducible first
  | refine stp ?_ | refine seg_both ?_ ?_ | refine seg_case (fun x h => ?_) (fun h => ?_) | refine seg_gate (fun h => ?_) (fun h => ?_) | refine seg_need ?_ ?_ | refine cond_v (fun h => ?_) (fun h => ?_)
  | refine seg_eval (by simp -dsimp -implicitDefEqProofs [g1, g2, g6]; rfl) ?_
  all_goals exact post_fin rfl rfl ⟨[], [], rfl, rfl, rfl, rfl⟩

def spFgR : Spec
  | [.v (.int .u8 f), .v (.int .u8 q), .v (.int .u8 c)], [] => if 0 ≤ f ∧ f < 256 ∧ 0 ≤ q ∧ q < 256 ∧ 0 ≤ c ∧ c < 256 then some (.ret (.v (.string (fgS f.toNat q.toNat c.toNat))), []) else none
  | _, _ => none
set_option maxHeartbeats 4000000 in
theorem forgedR_ok : CallOk Tryz.prog 41 spFgR := by
  refine ok_41 E32_ok spFgR fun args mem r mem1 h => ?_
  unfold spFgR at h
  split at h
  case h_2 => cases h
  rename_i f q c
  obtain ⟨⟨f0, f1, q0, q1, c0, c1⟩, h2⟩ := if_some h
  cases h2
  clear h
  obtain ⟨f, rfl⟩ := Int.eq_ofNat_of_zero_le f0
  obtain ⟨q, rfl⟩ := Int.eq_ofNat_of_zero_le q0
  obtain ⟨c, rfl⟩ := Int.eq_ofNat_of_zero_le c0
  simp only [Int.toNat_natCast]
  have hw : IntKind.wrap .u16 (q : Int) = (q : Int) := by rw [IntKind.wrap_u16]; omega
  have hok := fgV_ok (f := f) (q := q) (by omega)
  have hb : bytesOf [AV.v (.int .u8 (c : Int))] = some [UInt8.ofNat c] := by simp [bytesOf]
  unfold ac_41
  by_cases hf : f < 16
  · have d1 : decide ((f : Int) < 16) = true := by rw [decide_eq_true_eq]; omega
    have d2 : decide (f < 16) = true := by simp [hf]
    have hv : fgV f q = zV.set f q := by simp [fgV, hf]
    have hl : f < zV.length := by rw [zV_len]; exact hf
    unfold fgS
    rw [hv] at hok ⊢
    have hle : 1 + f + 1 ≤ 18 := by omega
    repeat' with_reducible first
    | refine stp ?_ | refine seg_both ?_ ?_ | refine seg_case (fun x h => ?_) (fun h => ?_) | refine seg_gate (fun h => ?_) (fun h => ?_) | refine seg_need ?_ ?_ | refine cond_v (fun h => ?_) (fun h => ?_)
    | refine seg_eval (by simp -dsimp -implicitDefEqProofs [d1, d2, hb, hw, hok, hf, hl, hle, Int.toNat_natCast]; rfl) ?_
    all_goals first
      | omega
      | exact hok
      | exact post_fin rfl rfl ⟨[], [], rfl, rfl, rfl, rfl⟩
      | trace_state
  · have d1 : decide ((f : Int) < 16) = false := by rw [decide_eq_false_iff_not]; omega
    have d2 : decide (f < 16) = false := by simp [hf]
    have hv : fgV f q = zV := by simp [fgV, hf]
    unfold fgS
    rw [hv] at hok ⊢
    repeat' with_reducible first
    | refine stp ?_ | refine seg_both ?_ ?_ | refine seg_case (fun x h => ?_) (fun h => ?_) | refine seg_gate (fun h => ?_) (fun h => ?_) | refine seg_need ?_ ?_ | refine cond_v (fun h => ?_) (fun h => ?_)
    | refine seg_eval (by simp -dsimp -implicitDefEqProofs [d1, d2, hb, hok, Int.toNat_natCast]; rfl) ?_
    all_goals first
      | omega
      | exact hok
      | exact post_fin rfl rfl ⟨[], [], rfl, rfl, rfl, rfl⟩
      | trace_state

def E37 : Env := (E36.put 25 [] spSizR).put 41 [] spFgR
theorem E37_ok : EnvOk Tryz.prog E37 := Env.put_ok _ (Env.put_ok _ E36_ok sizeR_ok) forgedR_ok
attribute [simp] E37 spSizR spFgR
def spTold : Spec
  | [.fsl 1 es], [] => (inB es).bind fun b => match b with
    | [] => none
    | x :: r => if x.toNat % 7 ≠ 0 ∧ r.length = sizS ((x.toNat % 7 : Nat) : Int) then some (.ret (avStp (stpB (x.toNat % 7) r)), []) else none
  | _, _ => none
theorem rem2 {n : Nat} : (((n : Int).tmod 2) == (1 : Int)) = decide (n % 2 = 1) := by
  have : ((n : Int).tmod 2) = ((n % 2 : Nat) : Int) := rfl
  rw [this, Bool.eq_iff_iff]; simp; omega
theorem quo16 {n : Nat} (h : n < 256) : (IntKind.wrap .u8 ((n : Int) / 2)).tmod 16 = ((n / 2 % 16 : Nat) : Int) := by
  have e1 : ((n : Int) / 2) = ((n / 2 : Nat) : Int) := by omega
  rw [e1, IntWalk.u8_in _ (by omega)]; rfl
set_option maxHeartbeats 16000000 in
theorem told_ok : CallOk Tryz.prog 26 spTold := by
  refine ok_26 E37_ok spTold fun args mem r mem1 h => ?_
  unfold spTold at h
  split at h
  case h_2 => cases h
  rename_i es
  obtain ⟨b, hb, h1⟩ := Option.bind_eq_some_iff.1 h
  clear h
  have := inB_some es b hb
  subst this
  clear hb
  split at h1
  case h_1 => cases h1
  rename_i x b
  obtain ⟨⟨w0, hl⟩, h2⟩ := if_some h1
  cases h2
  clear h1
  have w7 : x.toNat % 7 < 7 := Nat.mod_lt _ (by decide)
  have mW : ((x.toNat : Int).tmod 7) = ((x.toNat % 7 : Nat) : Int) := rfl
  have mW' : ((x.toNat : Int) % 7) = ((x.toNat % 7 : Nat) : Int) := by omega
  have x0 := u8w x
  obtain ⟨w, hwe⟩ : ∃ w, w = x.toNat % 7 := ⟨_, rfl⟩
  rw [← hwe] at mW mW' w0 w7 hl ⊢
  unfold ac_26
  by_cases k1 : w = 1
  · subst k1
    obtain ⟨y, z, rfl⟩ := len2 (b := b) (by rw [hl]; rfl)
    have e : avStp (stpB 1 [y, z]) = .agg [.v (.int .i64 1), .v (.int .u8 y.toNat), .v (.int .u8 0), .v (.int .i64 0), .v (.int .i64 0), .v (.int .i64 0), .v (.int .u8 0), .v (.int .i64 0), .v (.string ⟨#[z]⟩), .v (.bool false), .v (.int .u8 0)] := rfl
    rw [e]
    have hb := bof z
    clear hwe
    simp only [bv, List.map_cons, List.map_nil]
    repeat' with_reducible first
    | refine stp ?_ | refine seg_both ?_ ?_ | refine seg_case (fun x h => ?_) (fun h => ?_) | refine seg_gate (fun h => ?_) (fun h => ?_) | refine seg_need ?_ ?_ | refine cond_v (fun h => ?_) (fun h => ?_)
    | refine seg_eval (by simp -dsimp -implicitDefEqProofs [hb, x0, mW, mW']; rfl) ?_
    all_goals first
      | omega
      | exact post_fin rfl rfl ⟨[], [], rfl, rfl, rfl, rfl⟩
      | trace_state
  by_cases k2 : w = 2
  · subst k2
    obtain ⟨y, z, rfl⟩ := len2 (b := b) (by rw [hl]; rfl)
    have e : avStp (stpB 2 [y, z]) = .agg [.v (.int .i64 2), .v (.int .u8 y.toNat), .v (.int .u8 0), .v (.int .i64 0), .v (.int .i64 0), .v (.int .i64 0), .v (.int .u8 0), .v (.int .i64 0), .v (.string ⟨#[]⟩), .v (.bool (decide (z.toNat % 2 = 1))), .v (.int .u8 ((z.toNat / 2 % 16 : Nat) : Int))] := rfl
    have a1 := rem2 (n := z.toNat)
    have a2 := quo16 z.toNat_lt
    rw [e]
    clear hwe
    simp only [bv, List.map_cons, List.map_nil]
    repeat' with_reducible first
    | refine stp ?_ | refine seg_both ?_ ?_ | refine seg_case (fun x h => ?_) (fun h => ?_) | refine seg_gate (fun h => ?_) (fun h => ?_) | refine seg_need ?_ ?_ | refine cond_v (fun h => ?_) (fun h => ?_)
    | refine seg_eval (by simp -dsimp -implicitDefEqProofs [x0, mW, mW', a1, a2]; rfl) ?_
    all_goals first
      | omega
      | exact post_fin rfl rfl ⟨[], [], rfl, rfl, rfl, rfl⟩
      | trace_state
  by_cases k6 : w = 6
  · subst k6
    obtain ⟨c, y, z, u, v, t, rfl⟩ := len6 (b := b) (by rw [hl]; rfl)
    have e : avStp (stpB 6 [c, y, z, u, v, t]) = .agg [.v (.int .i64 6), .v (.int .u8 c.toNat), .v (.int .u8 y.toNat), .v (.int .i64 0), .v (.int .i64 z.toNat), .v (.int .i64 0), .v (.int .u8 u.toNat), .v (.int .i64 v.toNat), .v (.string (fgS u.toNat v.toNat t.toNat)), .v (.bool false), .v (.int .u8 0)] := rfl
    rw [e]
    have z1 := u8w z
    have v1 := u8w v
    have q1 := u8n u
    have q2 := u8l u
    have q3 := u8n v
    have q4 := u8l v
    have q5 := u8n t
    have q6 := u8l t
    clear hwe
    simp only [bv, List.map_cons, List.map_nil]
    repeat' with_reducible first
    | refine stp ?_ | refine seg_both ?_ ?_ | refine seg_case (fun x h => ?_) (fun h => ?_) | refine seg_gate (fun h => ?_) (fun h => ?_) | refine seg_need ?_ ?_ | refine cond_v (fun h => ?_) (fun h => ?_)
    | refine seg_eval (by simp -dsimp -implicitDefEqProofs [x0, mW, mW', z1, v1, q1, q2, q3, q4, q5, q6, Int.toNat_natCast]; rfl) ?_
    all_goals first
      | omega
      | exact post_fin rfl rfl ⟨[], [], rfl, rfl, rfl, rfl⟩
      | trace_state
  have hl1 : sizS (w : Int) = 1 := by
    have n1 : (w : Int) ≠ 1 := by omega
    have n2 : (w : Int) ≠ 2 := by omega
    have n6 : (w : Int) ≠ 6 := by omega
    simp [sizS, n1, n2, n6]
  obtain ⟨y, rfl⟩ := len1 (b := b) (by rw [hl, hl1])
  have e : avStp (stpB w [y]) = .agg [.v (.int .i64 w), .v (.int .u8 0), .v (.int .u8 0), .v (.int .i64 y.toNat), .v (.int .i64 0), .v (.int .i64 0), .v (.int .u8 0), .v (.int .i64 0), .v (.string ⟨#[]⟩), .v (.bool false), .v (.int .u8 0)] := by
    simp [stpB, k1, k2, k6, avStp]
  rw [e]
  have g1 : ((w : Int) == (1 : Int)) = false := by simp; omega
  have g2 : ((w : Int) == (2 : Int)) = false := by simp; omega
  have g6 : ((w : Int) == (6 : Int)) = false := by simp; omega
  have y1 := u8w y
  clear hwe
  simp only [bv, List.map_cons, List.map_nil]
  repeat' with_reducible first
  | refine stp ?_ | refine seg_both ?_ ?_ | refine seg_case (fun x h => ?_) (fun h => ?_) | refine seg_gate (fun h => ?_) (fun h => ?_) | refine seg_need ?_ ?_ | refine cond_v (fun h => ?_) (fun h => ?_)
  | refine seg_eval (by simp -dsimp -implicitDefEqProofs [x0, mW, mW', g1, g2, g6, y1]; rfl) ?_
  all_goals first
    | omega
    | exact post_fin rfl rfl ⟨[], [], rfl, rfl, rfl, rfl⟩
    | trace_state
end Go.Proofs.YtajpaagbfmjacaaGreatDoor.Am
