/-
  THE STEPS THAT BYTES SAY (the program).
-/
import Derived.Test.YtajpaagbfmjacaaGreatDoorZS2
namespace Go.Proofs.YtajpaagbfmjacaaGreatDoor.Am
set_option linter.unusedSimpArgs false
set_option linter.unusedVariables false
open Go Go.Proofs
attribute [local irreducible] wpA
attribute [-simp] splice

/-- The steps of bytes, no more than so many. -/
def decS (r : List UInt8) (m : Nat) : List Stp :=
  match r with
  | [] => []
  | x :: r' => if m = 0 then [] else if x.toNat % 7 = 0 then decS r' m else if r'.length < sizS ((x.toNat % 7 : Nat) : Int) then [] else
    stpB (x.toNat % 7) (r'.take (sizS ((x.toNat % 7 : Nat) : Int))) :: decS (r'.drop (sizS ((x.toNat % 7 : Nat) : Int))) (m - 1)
termination_by r.length
decreasing_by all_goals simp; try omega

theorem decS_nil (m : Nat) : decS [] m = [] := by rw [decS]
theorem decS_full (r : List UInt8) : decS r 0 = [] := by cases r <;> rw [decS] <;> simp
theorem decS_zero {x : UInt8} {r : List UInt8} {m : Nat} (h : x.toNat % 7 = 0) : decS (x :: r) m = decS r m := by
  by_cases hm : m = 0
  · subst hm; rw [decS_full, decS_full]
  · rw [decS]; simp [hm, h]
theorem decS_short {x : UInt8} {r : List UInt8} {m : Nat} (h : x.toNat % 7 ≠ 0) (hl : r.length < sizS ((x.toNat % 7 : Nat) : Int)) : decS (x :: r) m = [] := by
  rw [decS]; simp only [h, if_false, hl, if_true, ite_self]
theorem decS_one {x : UInt8} {r : List UInt8} {m : Nat} (h : x.toNat % 7 ≠ 0) (hl : ¬ r.length < sizS ((x.toNat % 7 : Nat) : Int)) (hm : m ≠ 0) :
    decS (x :: r) m = stpB (x.toNat % 7) (r.take (sizS ((x.toNat % 7 : Nat) : Int))) :: decS (r.drop (sizS ((x.toNat % 7 : Nat) : Int))) (m - 1) := by
  rw [decS]; simp only [h, if_false, hl, hm]
theorem sizS_le (w : Int) : 1 ≤ sizS w ∧ sizS w ≤ 6 := by unfold sizS; split <;> (try split) <;> omega

def E34 : Env := E33.put 24 [] spStep
theorem E34_ok : EnvOk Tryz.prog E34 := Env.put_ok _ E33_ok step_ok
attribute [simp] E34 spStep

def spDecS : Spec
  | [.fsl 1 es], [] => (inB es).bind fun l => if l.length ≤ 1000000 then some (.ret (.fsl 11 ((decS l 300).map avStp)), []) else none
  | _, _ => none
theorem avStp_shaped (s : Stp) : (avStp s).shaped = true := rfl
theorem avStp_bare (s : Stp) : (avStp s).isBare = true := rfl
theorem avStp_mapId (f : Nat → Nat) (s : Stp) : (avStp s).mapId f = avStp s := rfl
theorem avStp_cells (s : Stp) : (avStp s).cells.length = 11 := rfl
/-- How the steps so far are held. -/
def oAt (o : List Stp) : AV := if o = [] then .v (.slice none 0 0) else .osl 0
def oM (o : List Stp) : List Blk := if o = [] then [] else [.arr 37 11 (o.map avStp)]
set_option maxHeartbeats 16000000 in
theorem decS_ok : CallOk Tryz.prog 9 spDecS := by
  refine ok_9 E34_ok spDecS fun args mem r mem1 h => ?_
  unfold spDecS at h
  split at h
  case h_2 => cases h
  rename_i es
  obtain ⟨l, hl, h1⟩ := Option.bind_eq_some_iff.1 h
  clear h
  have := inB_some es l hl
  subst this
  clear hl
  obtain ⟨hll, h2⟩ := if_some h1
  cases h2
  clear h1
  unfold ac_9
  repeat' with_reducible first
  | refine stp ?_ | refine seg_both ?_ ?_ | refine seg_case (fun x h => ?_) (fun h => ?_) | refine seg_gate (fun h => ?_) (fun h => ?_) | refine seg_need ?_ ?_ | refine cond_v (fun h => ?_) (fun h => ?_)
  | refine seg_eval (by simp -dsimp -implicitDefEqProofs; rfl) ?_
  refine wp_loop' (fun j ts mm => ∃ (r : List UInt8) (o : List Stp), r.length = j ∧ r.length ≤ 1000000 ∧ o.length ≤ 300 ∧ o ++ decS r (300 - o.length) = decS l 300 ∧ ts = [(0, .fsl 1 (bv r)), (3, oAt o)] ∧ mm = oM o) l.length ?_ ?_
  · exact ⟨[], [], by simp, rfl, l, [], rfl, hll, by simp, by simp, by simp [oAt], by simp [oM]⟩
  · rintro j ts mm ⟨r, o, hj, hr, ho, hd, rfl, rfl⟩
    have hmod : ∀ x : UInt8, ((x.toNat : Int) % 7) = ((x.toNat % 7 : Nat) : Int) := fun x => by omega
    cases r with
    | nil =>
      simp only [decS_nil, List.append_nil] at hd
      rw [← hd]
      by_cases h0 : o = []
      · subst h0
        simp only [oAt, oM, if_true, List.map_nil]
        repeat' with_reducible first
        | refine stp ?_ | refine seg_both ?_ ?_ | refine seg_case (fun x h => ?_) (fun h => ?_) | refine seg_gate (fun h => ?_) (fun h => ?_) | refine seg_need ?_ ?_ | refine cond_v (fun h => ?_) (fun h => ?_)
        | refine seg_eval (by simp -dsimp -implicitDefEqProofs; rfl) ?_
        all_goals first
          | omega
          | exact post_finS rfl rfl (.nilv 11) ⟨[], [], rfl, rfl, rfl, rfl⟩
          | trace_state
      · simp only [oAt, oM, h0, if_false]
        repeat' with_reducible first
        | refine stp ?_ | refine seg_both ?_ ?_ | refine seg_case (fun x h => ?_) (fun h => ?_) | refine seg_gate (fun h => ?_) (fun h => ?_) | refine seg_need ?_ ?_ | refine cond_v (fun h => ?_) (fun h => ?_)
        | refine seg_eval (by simp -dsimp -implicitDefEqProofs; rfl) ?_
        all_goals first
          | omega
          | exact post_fin rfl rfl ⟨[0], [], rfl, rfl, rfl, rfl⟩
          | trace_state
    | cons x r =>
      have hlen : (0 : Int) < ((bv (x :: r)).length : Int) := by rw [bv_length]; simp
      have k1 : decide ((0 : Int) < ((bv (x :: r)).length : Int)) = true := by rw [decide_eq_true_eq]; exact hlen
      have mW : IntKind.wrap .i64 ((x.toNat : Int).tmod 7) = ((x.toNat % 7 : Nat) : Int) := by
        have : ((x.toNat : Int).tmod 7) = ((x.toNat % 7 : Nat) : Int) := rfl
        rw [this]; exact IntWalk.i64_in _ (by omega)
      have hjr : r.length + 1 = j := by simpa using hj
      have hrr : r.length ≤ 1000000 := by simp at hr; omega
      have htl : (bv (x :: r)).tail = bv r := rfl
      by_cases hfull : o.length < 300
      · have k2 : decide ((o.length : Int) < 300) = true := by rw [decide_eq_true_eq]; omega
        have k2' : decide (o.length < 300) = true := by simp [hfull]
        by_cases hw : x.toNat % 7 = 0
        · rw [decS_zero hw] at hd
          by_cases h0 : o = []
          · subst h0
            simp only [oAt, oM, if_true]
            repeat' with_reducible first
            | refine stp ?_ | refine seg_both ?_ ?_ | refine seg_case (fun x h => ?_) (fun h => ?_) | refine seg_gate (fun h => ?_) (fun h => ?_) | refine seg_need ?_ ?_ | refine cond_v (fun h => ?_) (fun h => ?_)
            | refine seg_eval (by simp -dsimp -implicitDefEqProofs [k1, mW, hw]; rfl) ?_
            all_goals first
              | omega
              | exact ⟨r.length, by omega, [], [], by simp, rfl, r, [], rfl, hrr, by simp, hd, by simp [htl], by simp⟩
              | trace_state
          · simp only [oAt, oM, h0, if_false]
            repeat' with_reducible first
            | refine stp ?_ | refine seg_both ?_ ?_ | refine seg_case (fun x h => ?_) (fun h => ?_) | refine seg_gate (fun h => ?_) (fun h => ?_) | refine seg_need ?_ ?_ | refine cond_v (fun h => ?_) (fun h => ?_)
            | refine seg_eval (by simp -dsimp -implicitDefEqProofs [k1, k2, k2', mW, hw]; rfl) ?_
            all_goals first
              | omega
              | exact ⟨r.length, by omega, [], [0], by simp, rfl, r, o, rfl, hrr, ho, hd, by simp [htl, h0], by simp [h0]⟩
              | trace_state
        · have hw0 : (((x.toNat % 7 : Nat) : Int) == (0 : Int)) = false := by simp; omega
          have w7 : x.toNat % 7 < 7 := Nat.mod_lt _ (by decide)
          obtain ⟨w, hwe⟩ : ∃ w, w = x.toNat % 7 := ⟨_, rfl⟩
          rw [← hwe] at mW hw0 w7 hw
          obtain ⟨sz, hsz⟩ : ∃ n, n = sizS (w : Int) := ⟨_, rfl⟩
          have hs16 := sizS_le (w : Int)
          rw [← hsz] at hs16
          by_cases hlt : r.length < sz
          · have k3 : decide (((r.length : Nat) : Int) < ((sz : Nat) : Int)) = true := by rw [decide_eq_true_eq]; omega
            have k3' : decide (r.length < sz) = true := by simp [hlt]
            rw [decS_short (by rw [← hwe]; exact hw) (by rw [← hwe, ← hsz]; exact hlt), List.append_nil] at hd
            rw [← hd]
            by_cases h0 : o = []
            · subst h0
              simp only [oAt, oM, if_true, List.map_nil]
              repeat' with_reducible first
              | refine stp ?_ | refine seg_both ?_ ?_ | refine seg_case (fun x h => ?_) (fun h => ?_) | refine seg_gate (fun h => ?_) (fun h => ?_) | refine seg_need ?_ ?_ | refine cond_v (fun h => ?_) (fun h => ?_)
              | refine seg_eval (by simp -dsimp -implicitDefEqProofs [k1, mW, hw0, ← hsz, k3, k3']; rfl) ?_
              all_goals first
                | omega
                | exact post_finS rfl rfl (.nilv 11) ⟨[], [], rfl, rfl, rfl, rfl⟩
                | trace_state
            · simp only [oAt, oM, h0, if_false]
              repeat' with_reducible first
              | refine stp ?_ | refine seg_both ?_ ?_ | refine seg_case (fun x h => ?_) (fun h => ?_) | refine seg_gate (fun h => ?_) (fun h => ?_) | refine seg_need ?_ ?_ | refine cond_v (fun h => ?_) (fun h => ?_)
              | refine seg_eval (by simp -dsimp -implicitDefEqProofs [k1, k2, k2', mW, hw0, ← hsz, k3, k3']; rfl) ?_
              all_goals first
                | omega
                | exact post_fin rfl rfl ⟨[0], [], rfl, rfl, rfl, rfl⟩
                | trace_state
          · have k3 : decide (((r.length : Nat) : Int) < ((sz : Nat) : Int)) = false := by rw [decide_eq_false_iff_not]; omega
            have k3' : decide (r.length < sz) = false := by simp [hlt]
            have hle : sz ≤ r.length := by omega
            have hlr : (r.take sz).length = sz := by simp; omega
            have hmin : min sz r.length = sz := by omega
            have w1 : (1 : Int) ≤ (w : Int) := by omega
            have w6 : (w : Int) ≤ 6 := by omega
            rw [decS_one (by rw [← hwe]; exact hw) (by rw [← hwe, ← hsz]; exact hlt) (by omega), ← hwe, ← hsz] at hd
            have hbv : (bv r).take sz = bv (r.take sz) := bv_take r sz
            have hbd : (bv r).drop sz = bv (r.drop sz) := bv_drop r sz
            have hb0 : (bv r).length - sz = r.length - sz := by rw [bv_length]
            have hin := inB_bv (r.take sz)
            have hdl : (r.drop sz).length = r.length - sz := by simp
            by_cases h0 : o = []
            · subst h0
              simp only [oAt, oM, if_true]
              repeat' with_reducible first
              | refine stp ?_ | refine seg_both ?_ ?_ | refine seg_case (fun x h => ?_) (fun h => ?_) | refine seg_gate (fun h => ?_) (fun h => ?_) | refine seg_need ?_ ?_ | refine cond_v (fun h => ?_) (fun h => ?_)
              | refine seg_eval (by simp -dsimp -implicitDefEqProofs [k1, mW, hw0, ← hsz, k3, k3', htl, hle, hbv, hbd, hin, hlr, hmin, w1, w6, avStp_mapId, avStp_shaped, avStp_bare, avStp_cells, Int.toNat_natCast]; rfl) ?_
              all_goals first
                | omega
                | exact ⟨rfl, rfl⟩
                | exact ⟨by omega, by omega, rfl⟩
                | exact ⟨by omega, by omega, rfl, fun _ _ => rfl⟩
                | exact rfl
                | exact ⟨r.length - sz, by omega, [], [1], by simp, rfl, r.drop sz, [stpB w (r.take sz)], hdl, by omega, by simp, by simpa using hd, by simp, by simp⟩
                | trace_state
            · simp only [oAt, oM, h0, if_false]
              repeat' with_reducible first
              | refine stp ?_ | refine seg_both ?_ ?_ | refine seg_case (fun x h => ?_) (fun h => ?_) | refine seg_gate (fun h => ?_) (fun h => ?_) | refine seg_need ?_ ?_ | refine cond_v (fun h => ?_) (fun h => ?_)
              | refine seg_eval (by simp -dsimp -implicitDefEqProofs [k1, k2, k2', mW, hw0, ← hsz, k3, k3', htl, hle, hbv, hbd, hin, hlr, hmin, w1, w6, avStp_mapId, avStp_shaped, avStp_bare, avStp_cells, Int.toNat_natCast]; rfl) ?_
              all_goals first
                | omega
                | exact ⟨rfl, rfl⟩
                | exact ⟨by omega, by omega, rfl⟩
                | exact ⟨by omega, by omega, rfl, fun _ _ => rfl⟩
                | exact rfl
                | exact ⟨r.length - sz, by omega, [], [2], by simp, rfl, r.drop sz, o ++ [stpB w (r.take sz)], hdl, by omega, by simp; omega, by simpa [Nat.sub_sub] using hd, by simp, by simp⟩
                | trace_state
      · have k2 : decide ((o.length : Int) < 300) = false := by rw [decide_eq_false_iff_not]; omega
        have k2' : decide (o.length < 300) = false := by simp [hfull]
        have hfin : 300 - o.length = 0 := by omega
        rw [hfin, decS_full, List.append_nil] at hd
        rw [← hd]
        have h0 : o ≠ [] := by intro h; subst h; simp at hfull
        simp only [oAt, oM, h0, if_false]
        repeat' with_reducible first
        | refine stp ?_ | refine seg_both ?_ ?_ | refine seg_case (fun x h => ?_) (fun h => ?_) | refine seg_gate (fun h => ?_) (fun h => ?_) | refine seg_need ?_ ?_ | refine cond_v (fun h => ?_) (fun h => ?_)
        | refine seg_eval (by simp -dsimp -implicitDefEqProofs [k1, k2, k2']; rfl) ?_
        all_goals first
          | omega
          | exact post_fin rfl rfl ⟨[0], [], rfl, rfl, rfl, rfl⟩
          | trace_state
end Go.Proofs.YtajpaagbfmjacaaGreatDoor.Am
