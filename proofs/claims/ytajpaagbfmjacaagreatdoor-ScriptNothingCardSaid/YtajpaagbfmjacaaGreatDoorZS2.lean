/-
  A STEP OUT OF BYTES, on both sides.
-/
import Derived.Test.YtajpaagbfmjacaaGreatDoorZS1
namespace Go.Proofs.YtajpaagbfmjacaaGreatDoor.Am
set_option linter.unusedSimpArgs false
set_option linter.unusedVariables false
open Go Go.Proofs
attribute [local irreducible] wpA
attribute [-simp] splice

/-- The step of a kind, out of the bytes behind its first one. -/
def stpB (w : Nat) (b : List UInt8) : Stp :=
  let g := fun i : Nat => ((b.getD i 0).toNat : Int)
  if w = 1 then ⟨1, g 0, 0, 0, 0, 0, 0, ⟨#[b.getD 1 0]⟩, false, 0⟩
  else if w = 2 then ⟨2, g 0, 0, 0, 0, 0, 0, ⟨#[]⟩, decide ((b.getD 1 0).toNat % 2 = 1), ((b.getD 1 0).toNat / 2 % 16 : Nat)⟩
  else if w = 6 then ⟨6, g 0, g 1, 0, g 2, g 3, g 4, fgS (b.getD 3 0).toNat (b.getD 4 0).toNat (b.getD 5 0).toNat, false, 0⟩
  else ⟨w, 0, 0, g 0, 0, 0, 0, ⟨#[]⟩, false, 0⟩

theorem and1 : ∀ n : Fin 256, (((u8 (n.val % 2)).toNat : Int) == (1 : Int)) = decide (n.val % 2 = 1) := by decide +kernel
theorem shr15 : ∀ n : Fin 256, (((u8 ((((n.val : Nat) : Int) / 2 % 256).toNat &&& 15)).toNat : Nat) : Int) = ((n.val / 2 % 16 : Nat) : Int) := by decide +kernel
theorem and1' {n : Nat} (h : n < 256) : (((u8 (n % 2)).toNat : Int) == (1 : Int)) = decide (n % 2 = 1) := and1 ⟨n, h⟩
theorem shr15' {n : Nat} (h : n < 256) : (((u8 (((n : Int) / 2 % 256).toNat &&& 15)).toNat : Nat) : Int) = ((n / 2 % 16 : Nat) : Int) := shr15 ⟨n, h⟩

def spStep : Spec
  | [.v (.int .i64 w), .fsl 1 es], [] => (inB es).bind fun b => if 1 ≤ w ∧ w ≤ 6 ∧ b.length = sizS w then some (.ret (avStp (stpB w.toNat b)), []) else none
  | _, _ => none
def E33 : Env := (E32.put 40 [] spFg).put 23 [] spSiz
theorem E33_ok : EnvOk Tryz.prog E33 := Env.put_ok _ (Env.put_ok _ E32_ok forged_ok) size_ok
attribute [simp] E33 spFg spSiz
theorem len1 {b : List UInt8} (h : b.length = 1) : ∃ x, b = [x] := by
  match b, h with
  | [x], _ => exact ⟨x, rfl⟩
theorem len2 {b : List UInt8} (h : b.length = 2) : ∃ x y, b = [x, y] := by
  match b, h with
  | [x, y], _ => exact ⟨x, y, rfl⟩
theorem len6 {b : List UInt8} (h : b.length = 6) : ∃ x y z u v t, b = [x, y, z, u, v, t] := by
  match b, h with
  | [x, y, z, u, v, t], _ => exact ⟨x, y, z, u, v, t, rfl⟩
theorem bof (y : UInt8) : bytesOf [AV.v (.int .u8 (y.toNat : Int))] = some [y] := by simp [bytesOf]
theorem u8w (y : UInt8) : IntKind.wrap .i64 (y.toNat : Int) = (y.toNat : Int) := IntWalk.i64_in _ (by have := y.toNat_lt; omega)
theorem u8n (y : UInt8) : (0 : Int) ≤ (y.toNat : Int) := by omega
theorem u8l (y : UInt8) : (y.toNat : Int) < 256 := by have := y.toNat_lt; omega
set_option maxHeartbeats 16000000 in
theorem step_ok : CallOk Tryz.prog 24 spStep := by
  refine ok_24 E33_ok spStep fun args mem r mem1 h => ?_
  unfold spStep at h
  split at h
  case h_2 => cases h
  rename_i w es
  obtain ⟨b, hb, h1⟩ := Option.bind_eq_some_iff.1 h
  clear h
  have := inB_some es b hb
  subst this
  clear hb
  obtain ⟨⟨w0, w1, hl⟩, h2⟩ := if_some h1
  cases h2
  clear h1
  unfold ac_24
  by_cases k1 : w = 1
  · subst k1
    obtain ⟨x, y, rfl⟩ := len2 (b := b) (by rw [hl]; rfl)
    have e : avStp (stpB (1 : Int).toNat [x, y]) = .agg [.v (.int .i64 1), .v (.int .u8 x.toNat), .v (.int .u8 0), .v (.int .i64 0), .v (.int .i64 0), .v (.int .i64 0), .v (.int .u8 0), .v (.int .i64 0), .v (.string ⟨#[y]⟩), .v (.bool false), .v (.int .u8 0)] := rfl
    rw [e]
    have hb := bof y
    simp only [bv, List.map_cons, List.map_nil]
    repeat' with_reducible first
    | refine stp ?_ | refine seg_both ?_ ?_ | refine seg_case (fun x h => ?_) (fun h => ?_) | refine seg_gate (fun h => ?_) (fun h => ?_) | refine seg_need ?_ ?_ | refine cond_v (fun h => ?_) (fun h => ?_)
    | refine seg_eval (by simp -dsimp -implicitDefEqProofs [hb]; rfl) ?_
    all_goals first
      | omega
      | exact post_fin rfl rfl ⟨[], [], rfl, rfl, rfl, rfl⟩
      | trace_state
  by_cases k2 : w = 2
  · subst k2
    obtain ⟨x, y, rfl⟩ := len2 (b := b) (by rw [hl]; rfl)
    have e : avStp (stpB (2 : Int).toNat [x, y]) = .agg [.v (.int .i64 2), .v (.int .u8 x.toNat), .v (.int .u8 0), .v (.int .i64 0), .v (.int .i64 0), .v (.int .i64 0), .v (.int .u8 0), .v (.int .i64 0), .v (.string ⟨#[]⟩), .v (.bool (decide (y.toNat % 2 = 1))), .v (.int .u8 ((y.toNat / 2 % 16 : Nat) : Int))] := rfl
    have a1 := and1' y.toNat_lt
    have a2 := shr15' y.toNat_lt
    rw [e, ← a1, ← a2]
    clear a1 a2 e
    simp only [bv, List.map_cons, List.map_nil]
    repeat' with_reducible first
    | refine stp ?_ | refine seg_both ?_ ?_ | refine seg_case (fun x h => ?_) (fun h => ?_) | refine seg_gate (fun h => ?_) (fun h => ?_) | refine seg_need ?_ ?_ | refine cond_v (fun h => ?_) (fun h => ?_)
    | refine seg_eval (by simp -dsimp -implicitDefEqProofs; rfl) ?_
    all_goals first
      | omega
      | exact post_fin rfl rfl ⟨[], [], rfl, rfl, rfl, rfl⟩
      | trace_state
  by_cases k6 : w = 6
  · subst k6
    obtain ⟨x, y, z, u, v, t, rfl⟩ := len6 (b := b) (by rw [hl]; rfl)
    have e : avStp (stpB (6 : Int).toNat [x, y, z, u, v, t]) = .agg [.v (.int .i64 6), .v (.int .u8 x.toNat), .v (.int .u8 y.toNat), .v (.int .i64 0), .v (.int .i64 z.toNat), .v (.int .i64 0), .v (.int .u8 u.toNat), .v (.int .i64 v.toNat), .v (.string (fgS u.toNat v.toNat t.toNat)), .v (.bool false), .v (.int .u8 0)] := rfl
    rw [e]
    have z1 := u8w z
    have v1 := u8w v
    have q1 := u8n u
    have q2 := u8l u
    have q3 := u8n v
    have q4 := u8l v
    have q5 := u8n t
    have q6 := u8l t
    simp only [bv, List.map_cons, List.map_nil]
    repeat' with_reducible first
    | refine stp ?_ | refine seg_both ?_ ?_ | refine seg_case (fun x h => ?_) (fun h => ?_) | refine seg_gate (fun h => ?_) (fun h => ?_) | refine seg_need ?_ ?_ | refine cond_v (fun h => ?_) (fun h => ?_)
    | refine seg_eval (by simp -dsimp -implicitDefEqProofs [z1, v1, q1, q2, q3, q4, q5, q6, Int.toNat_natCast]; rfl) ?_
    all_goals first
      | omega
      | exact post_fin rfl rfl ⟨[], [], rfl, rfl, rfl, rfl⟩
      | trace_state
  have hl1 : sizS w = 1 := by simp [sizS, k1, k2, k6]
  obtain ⟨x, rfl⟩ := len1 (b := b) (by rw [hl, hl1])
  obtain ⟨w, rfl⟩ := Int.eq_ofNat_of_zero_le (show 0 ≤ w by omega)
  have n1 : w ≠ 1 := by omega
  have n2 : w ≠ 2 := by omega
  have n6 : w ≠ 6 := by omega
  have e : avStp (stpB (w : Int).toNat [x]) = .agg [.v (.int .i64 w), .v (.int .u8 0), .v (.int .u8 0), .v (.int .i64 x.toNat), .v (.int .i64 0), .v (.int .i64 0), .v (.int .u8 0), .v (.int .i64 0), .v (.string ⟨#[]⟩), .v (.bool false), .v (.int .u8 0)] := by
    simp [stpB, n1, n2, n6, avStp]
  rw [e]
  have g1 : ((w : Int) == (1 : Int)) = false := by simp; omega
  have g2 : ((w : Int) == (2 : Int)) = false := by simp; omega
  have g6 : ((w : Int) == (6 : Int)) = false := by simp; omega
  have x1 := u8w x
  simp only [bv, List.map_cons, List.map_nil]
  repeat' with_reducible first
  | refine stp ?_ | refine seg_both ?_ ?_ | refine seg_case (fun x h => ?_) (fun h => ?_) | refine seg_gate (fun h => ?_) (fun h => ?_) | refine seg_need ?_ ?_ | refine cond_v (fun h => ?_) (fun h => ?_)
  | refine seg_eval (by simp -dsimp -implicitDefEqProofs [g1, g2, g6, x1]; rfl) ?_
  all_goals first
    | omega
    | exact post_fin rfl rfl ⟨[], [], rfl, rfl, rfl, rfl⟩
    | trace_state
end Go.Proofs.YtajpaagbfmjacaaGreatDoor.Am
