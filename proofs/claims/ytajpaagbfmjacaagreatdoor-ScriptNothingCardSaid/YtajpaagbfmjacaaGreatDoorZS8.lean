/-
  The law ScriptNothing: bytes that say nothing may stand between steps, and ahead of them.
-/
import Derived.Test.YtajpaagbfmjacaaGreatDoorZS5
namespace Go.Proofs.YtajpaagbfmjacaaGreatDoor.Am
set_option linter.unusedSimpArgs false
set_option linter.unusedVariables false
open Go Go.Proofs
attribute [local irreducible] wpA
attribute [-simp] splice

theorem decS_zeros (l : List UInt8) (m : Nat) : ∀ n : Nat, decS (List.replicate n 0 ++ l) m = decS l m
  | 0 => by simp
  | n + 1 => by
    rw [List.replicate_succ, List.cons_append, decS_zero (by rfl)]
    exact decS_zeros l m n
theorem u8of {p : Nat} (h : p < 256) : (UInt8.ofNat p).toNat = p := by rw [UInt8.toNat_ofNat']; omega
theorem bv_zeros (n : Nat) : List.replicate n (AV.v (.int .u8 0)) = bv (List.replicate n 0) := by simp [bv]

def spNothing : Spec
  | [.fsl 1 es, .v (.int .u8 n), .v (.int .u8 a)], [] => (inB es).bind fun _ => if 0 ≤ n ∧ n < 256 ∧ 0 ≤ a ∧ a < 256 then some (.ret (.v (.bool true)), []) else none
  | _, _ => none
set_option maxHeartbeats 16000000 in
theorem nothing_ok : CallOk Tryz.prog 6 spNothing := by
  refine ok_6 E35_ok spNothing fun args mem r mem1 h => ?_
  unfold spNothing at h
  split at h
  case h_2 => cases h
  rename_i es n a
  obtain ⟨l, hl, h1⟩ := Option.bind_eq_some_iff.1 h
  clear h
  have := inB_some es l hl
  subst this
  clear hl
  obtain ⟨⟨n0, n1, a0, a1⟩, h2⟩ := if_some h1
  cases h2
  clear h1
  obtain ⟨n, rfl⟩ := Int.eq_ofNat_of_zero_le n0
  obtain ⟨a, rfl⟩ := Int.eq_ofNat_of_zero_le a0
  unfold ac_6
  have hin := inB_bv l
  by_cases hbig : 2000 < l.length
  · have k1 : decide ((2000 : Int) < ((l.length : Nat) : Int)) = true := by rw [decide_eq_true_eq]; omega
    have k2 : decide (2000 < l.length) = true := by simp [hbig]
    repeat' with_reducible first
    | refine stp ?_ | refine seg_both ?_ ?_ | refine seg_case (fun x h => ?_) (fun h => ?_) | refine seg_gate (fun h => ?_) (fun h => ?_) | refine seg_need ?_ ?_ | refine cond_v (fun h => ?_) (fun h => ?_)
    | refine seg_eval (by simp -dsimp -implicitDefEqProofs [k1, k2]; rfl) ?_
    all_goals first
      | omega
      | exact post_fin rfl rfl ⟨[], [], rfl, rfl, rfl, rfl⟩
      | trace_state
  · have k1 : decide ((2000 : Int) < ((l.length : Nat) : Int)) = false := by rw [decide_eq_false_iff_not]; omega
    have k2 : decide (2000 < l.length) = false := by simp [hbig]
    have hll : l.length ≤ 1000000 := by omega
    have hlen := decS_len 300 l
    have hzz := decS_zeros l 300 n
    have hin2 := inB_bv (List.replicate n 0 ++ l)
    have hl2 : (List.replicate n 0 ++ l).length ≤ 1000000 := by simp; omega
    have hrep := bv_zeros n
    obtain ⟨Z, hZ⟩ : ∃ Z, Z = List.replicate n (0 : UInt8) := ⟨_, rfl⟩
    have hZl : Z.length = n := by rw [hZ]; simp
    rw [← hZ] at hzz hin2 hl2 hrep
    obtain ⟨A, hA⟩ : ∃ A, A = decS l 300 := ⟨_, rfl⟩
    rw [← hA] at hlen hzz
    repeat' with_reducible first
    | refine stp ?_ | refine seg_both ?_ ?_ | refine seg_case (fun x h => ?_) (fun h => ?_) | refine seg_gate (fun h => ?_) (fun h => ?_) | refine seg_need ?_ ?_ | refine cond_v (fun h => ?_) (fun h => ?_)
    | refine seg_eval (by simp -dsimp -implicitDefEqProofs [k1, k2, hll, hin, hin2, hl2, hrep, hzz, ← hA, Int.toNat_natCast]; rfl) ?_
    all_goals try omega
    refine wp_loop' (fun j ts mm => ∃ i : Nat, i + j = A.length ∧ ts = [(1, .v (.int .u8 n)), (2, .v (.int .u8 a)), (7, .fsl 11 (A.map avStp)), (8, .fsl 11 (A.map avStp)), (29, .v (.int .i64 A.length)), (30, .v (.int .i64 i))] ∧ mm = []) A.length ?_ ?_
    · exact ⟨[], [], by simp, rfl, 0, by omega, by simp, rfl⟩
    · rintro j ts mm ⟨i, hij, rfl, rfl⟩
      by_cases hlt : i < A.length
      · obtain ⟨x, hx⟩ : ∃ x, A[i]? = some x := ⟨_, List.getElem?_eq_getElem hlt⟩
        have hd : decide ((i : Int) < ((A.length : Nat) : Int)) = true := by rw [decide_eq_true_eq]; omega
        have hd2 : decide (i < A.length) = true := by simp [hlt]
        have h64 : IntKind.wrap .i64 ((i : Int) + 1) = ((i + 1 : Nat) : Int) := by rw [IntWalk.i64_in _ (by omega)]; rfl
        obtain ⟨w, a', b, at_, k', f, q, t, add, id⟩ := x
        have ht : (t == t) = true := by rw [beq_bytes]; simp
        repeat' with_reducible first
        | refine stp ?_ | refine seg_both ?_ ?_ | refine seg_case (fun x h => ?_) (fun h => ?_) | refine seg_gate (fun h => ?_) (fun h => ?_) | refine seg_need ?_ ?_ | refine cond_v (fun h => ?_) (fun h => ?_)
        | refine seg_eval (by simp -dsimp -implicitDefEqProofs [hd, hd2, hx, avStp, h64, ht]; rfl) ?_
        all_goals first
          | omega
          | exact ⟨j - 1, by omega, [], [], by simp, rfl, i + 1, by omega, by simp, by simp⟩
          | trace_state
      · have hd : decide ((i : Int) < ((A.length : Nat) : Int)) = false := by rw [decide_eq_false_iff_not]; omega
        have hd2 : decide (i < A.length) = false := by simp [hlt]
        obtain ⟨p, hp⟩ : ∃ p, p = 7 * (a % 30) := ⟨_, rfl⟩
        obtain ⟨q, hq⟩ : ∃ q, q = 7 * (n % 30) := ⟨_, rfl⟩
        have hp2 : p < 256 := by omega
        have hq2 : q < 256 := by omega
        have mA : IntKind.wrap .u8 (7 * Int.tmod (a : Int) 30) = ((p : Nat) : Int) := by rw [show Int.tmod (a : Int) 30 = ((a % 30 : Nat) : Int) from rfl, IntWalk.u8_in _ (by omega)]; omega
        have mN : IntKind.wrap .u8 (7 * Int.tmod (n : Int) 30) = ((q : Nat) : Int) := by rw [show Int.tmod (n : Int) 30 = ((n % 30 : Nat) : Int) from rfl, IntWalk.u8_in _ (by omega)]; omega
        have hin3 : inB [.v (.int .u8 (p : Int)), .v (.int .u8 (q : Int)), .v (.int .u8 0)] = some [UInt8.ofNat p, UInt8.ofNat q, 0] := by
          have := inB_bv [UInt8.ofNat p, UInt8.ofNat q, 0]
          simpa [bv, u8of hp2, u8of hq2] using this
        have hd0 : decS [UInt8.ofNat p, UInt8.ofNat q, 0] 300 = [] := by
          rw [decS_zero (by rw [u8of hp2]; omega), decS_zero (by rw [u8of hq2]; omega), decS_zero (by rfl), decS_nil]
        repeat' with_reducible first
        | refine stp ?_ | refine seg_both ?_ ?_ | refine seg_case (fun x h => ?_) (fun h => ?_) | refine seg_gate (fun h => ?_) (fun h => ?_) | refine seg_need ?_ ?_ | refine cond_v (fun h => ?_) (fun h => ?_)
        | refine seg_eval (by simp -dsimp -implicitDefEqProofs [hd, hd2, mA, mN, hin3, hd0]; rfl) ?_
        all_goals first
          | omega
          | exact post_fin rfl rfl ⟨[], [], rfl, rfl, rfl, rfl⟩
          | trace_state
end Go.Proofs.YtajpaagbfmjacaaGreatDoor.Am
