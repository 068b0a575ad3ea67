/-
  The law ScriptShort: a beginning's steps are a beginning of the steps.
-/
import Derived.Test.YtajpaagbfmjacaaGreatDoorZS3
import Derived.Test.YtajpaagbfmjacaaGreatDoorZYZ
namespace Go.Proofs.YtajpaagbfmjacaaGreatDoor.Am
set_option linter.unusedSimpArgs false
set_option linter.unusedVariables false
open Go Go.Proofs
attribute [local irreducible] wpA
attribute [-simp] splice

theorem decS_len (m : Nat) (r : List UInt8) : (decS r m).length ≤ m := by
  induction h : r.length using Nat.strongRecOn generalizing r m with
  | ind n ih =>
    cases r with
    | nil => simp [decS_nil]
    | cons x r =>
      simp only [List.length_cons] at h
      by_cases hw : x.toNat % 7 = 0
      · rw [decS_zero hw]; exact ih r.length (by omega) m r rfl
      · by_cases hl : r.length < sizS ((x.toNat % 7 : Nat) : Int)
        · rw [decS_short hw hl]; simp
        · by_cases hm : m = 0
          · subst hm; rw [decS_full]; simp
          · rw [decS_one hw hl hm]
            have := ih (r.drop (sizS ((x.toNat % 7 : Nat) : Int))).length (by simp; omega) (m - 1) _ rfl
            simp only [List.length_cons]; omega
theorem decS_pre (m k : Nat) (r : List UInt8) : decS (r.take k) m <+: decS r m := by
  induction h : r.length using Nat.strongRecOn generalizing r m k with
  | ind n ih =>
    cases r with
    | nil => simp
    | cons x r =>
      simp only [List.length_cons] at h
      cases k with
      | zero => simp [decS_nil]
      | succ k =>
        rw [List.take_succ_cons]
        by_cases hw : x.toNat % 7 = 0
        · rw [decS_zero hw, decS_zero hw]; exact ih r.length (by omega) m k r rfl
        · by_cases hm : m = 0
          · subst hm; rw [decS_full, decS_full]; exact List.prefix_refl _
          · obtain ⟨sz, hsz⟩ : ∃ n, n = sizS ((x.toNat % 7 : Nat) : Int) := ⟨_, rfl⟩
            by_cases hs : (r.take k).length < sz
            · rw [decS_short hw (by rw [← hsz]; exact hs)]; exact List.nil_prefix
            · simp only [List.length_take] at hs
              rw [decS_one hw (by rw [← hsz]; simp only [List.length_take]; exact hs) hm, decS_one hw (by rw [← hsz]; omega) hm, ← hsz]
              have e1 : (r.take k).take sz = r.take sz := by rw [List.take_take]; congr 1; omega
              have e2 : (r.take k).drop sz = (r.drop sz).take (k - sz) := by rw [List.drop_take]
              rw [e1, e2, List.prefix_cons_inj]
              exact ih (r.drop sz).length (by have := sizS_le ((x.toNat % 7 : Nat) : Int); simp; omega) (m - 1) (k - sz) _ rfl
def E35 : Env := (E34.put 9 [] spDecS).put 8 [] spTrue
theorem E35_ok : EnvOk Tryz.prog E35 := Env.put_ok _ (Env.put_ok _ E34_ok decS_ok) alive21_ok
attribute [simp] E35 spDecS

def spShort : Spec
  | [.fsl 1 es, .v (.int .u16 n)], [] => (inB es).bind fun _ => if 0 ≤ n ∧ n < 65536 then some (.ret (.v (.bool true)), []) else none
  | _, _ => none
set_option maxHeartbeats 16000000 in
theorem short_ok : CallOk Tryz.prog 4 spShort := by
  refine ok_4 E35_ok spShort fun args mem r mem1 h => ?_
  unfold spShort at h
  split at h
  case h_2 => cases h
  rename_i es n
  obtain ⟨l, hl, h1⟩ := Option.bind_eq_some_iff.1 h
  clear h
  have := inB_some es l hl
  subst this
  clear hl
  obtain ⟨⟨n0, n1⟩, h2⟩ := if_some h1
  cases h2
  clear h1
  obtain ⟨n, rfl⟩ := Int.eq_ofNat_of_zero_le n0
  unfold ac_4
  have hin := inB_bv l
  by_cases hbig : 2000 < l.length
  · have k1 : decide ((2000 : Int) < ((l.length : Nat) : Int)) = true := by rw [decide_eq_true_eq]; omega
    have k2 : decide (2000 < l.length) = true := by simp [hbig]
    repeat' with_reducible first
    | refine stp ?_ | refine seg_both ?_ ?_ | refine seg_case (fun x h => ?_) (fun h => ?_) | refine seg_gate (fun h => ?_) (fun h => ?_) | refine seg_need ?_ ?_ | refine cond_v (fun h => ?_) (fun h => ?_)
    | refine seg_eval (by simp -dsimp -implicitDefEqProofs [k1, k2]; rfl) ?_
    all_goals first
      | omega
      | exact post_fin rfl rfl ⟨[], [], rfl, rfl, rfl, rfl⟩
      | trace_state
  · have k1 : decide ((2000 : Int) < ((l.length : Nat) : Int)) = false := by rw [decide_eq_false_iff_not]; omega
    have k2 : decide (2000 < l.length) = false := by simp [hbig]
    have nw : IntKind.wrap .i64 (n : Int) = (n : Int) := IntWalk.i64_in _ (by omega)
    have hll : l.length ≤ 1000000 := by omega
    obtain ⟨k, hk⟩ : ∃ k, k = min n l.length := ⟨_, rfl⟩
    have hkl : k ≤ l.length := by omega
    have hm1 : (if ((l.length : Nat) : Int) < (n : Int) then ((l.length : Nat) : Int) else (n : Int)) = (k : Int) := by split <;> omega
    have hm2 : (if l.length < n then ((l.length : Nat) : Int) else (n : Int)) = (k : Int) := by split <;> omega
    have hpre := decS_pre 300 k l
    have hlen := decS_len 300 l
    have hlenk := decS_len 300 (l.take k)
    have hin2 := inB_bv (l.take k)
    have hbt : (bv l).take k = bv (l.take k) := bv_take l k
    have htl : (l.take k).length ≤ 1000000 := by simp; omega
    obtain ⟨A, hA⟩ : ∃ A, A = decS l 300 := ⟨_, rfl⟩
    obtain ⟨B, hB⟩ : ∃ B, B = decS (l.take k) 300 := ⟨_, rfl⟩
    rw [← hA] at hlen hpre
    rw [← hB] at hlenk hpre
    have hBA := hpre.length_le
    have c1 : decide (((A.length : Nat) : Int) < ((B.length : Nat) : Int)) = false := by rw [decide_eq_false_iff_not]; omega
    have c1' : decide (A.length < B.length) = false := by rw [decide_eq_false_iff_not]; omega
    have c2 : decide ((300 : Int) < ((A.length : Nat) : Int)) = false := by rw [decide_eq_false_iff_not]; omega
    have c2' : decide (300 < A.length) = false := by rw [decide_eq_false_iff_not]; omega
    repeat' with_reducible first
    | refine stp ?_ | refine seg_both ?_ ?_ | refine seg_case (fun x h => ?_) (fun h => ?_) | refine seg_gate (fun h => ?_) (fun h => ?_) | refine seg_need ?_ ?_ | refine cond_v (fun h => ?_) (fun h => ?_)
    | refine seg_eval (by simp -dsimp -implicitDefEqProofs [k1, k2, nw, hll, hm1, hm2, hkl, hin, hin2, hbt, htl, ← hA, ← hB, c1, c1', c2, c2', Int.toNat_natCast]; rfl) ?_
    · omega
    · refine wp_loop' (fun j ts mm => ∃ i : Nat, i + j = B.length ∧ ts = [(5, .fsl 11 (A.map avStp)), (6, .fsl 11 (B.map avStp)), (34, .v (.int .i64 B.length)), (35, .v (.int .i64 i))] ∧ mm = []) B.length ?_ ?_
      · exact ⟨[], [], by simp, rfl, 0, by omega, by simp, rfl⟩
      · rintro j ts mm ⟨i, hij, rfl, rfl⟩
        by_cases hlt : i < B.length
        · obtain ⟨x, hx⟩ : ∃ x, B[i]? = some x := ⟨_, List.getElem?_eq_getElem hlt⟩
          have hxA : A[i]? = some x := by
            obtain ⟨t, e⟩ := hpre
            rw [← e, List.getElem?_append_left hlt]; exact hx
          have hd : decide ((i : Int) < ((B.length : Nat) : Int)) = true := by rw [decide_eq_true_eq]; omega
          have hd2 : decide (i < B.length) = true := by simp [hlt]
          have h64 : IntKind.wrap .i64 ((i : Int) + 1) = ((i + 1 : Nat) : Int) := by rw [IntWalk.i64_in _ (by omega)]; rfl
          obtain ⟨w, a, b, at_, k', f, q, t, add, id⟩ := x
          have ht : (t == t) = true := by rw [beq_bytes]; simp
          repeat' with_reducible first
          | refine stp ?_ | refine seg_both ?_ ?_ | refine seg_case (fun x h => ?_) (fun h => ?_) | refine seg_gate (fun h => ?_) (fun h => ?_) | refine seg_need ?_ ?_ | refine cond_v (fun h => ?_) (fun h => ?_)
          | refine seg_eval (by simp -dsimp -implicitDefEqProofs [hd, hd2, hx, hxA, avStp, h64, ht]; rfl) ?_
          all_goals first
            | omega
            | exact ⟨j - 1, by omega, [], [], by simp, rfl, i + 1, by omega, by simp, by simp⟩
            | trace_state
        · have hd : decide ((i : Int) < ((B.length : Nat) : Int)) = false := by rw [decide_eq_false_iff_not]; omega
          have hd2 : decide (i < B.length) = false := by simp [hlt]
          repeat' with_reducible first
          | refine stp ?_ | refine seg_both ?_ ?_ | refine seg_case (fun x h => ?_) (fun h => ?_) | refine seg_gate (fun h => ?_) (fun h => ?_) | refine seg_need ?_ ?_ | refine cond_v (fun h => ?_) (fun h => ?_)
          | refine seg_eval (by simp -dsimp -implicitDefEqProofs [hd, hd2]; rfl) ?_
          all_goals first
            | omega
            | exact post_fin rfl rfl ⟨[], [], rfl, rfl, rfl, rfl⟩
            | trace_state
end Go.Proofs.YtajpaagbfmjacaaGreatDoor.Am
