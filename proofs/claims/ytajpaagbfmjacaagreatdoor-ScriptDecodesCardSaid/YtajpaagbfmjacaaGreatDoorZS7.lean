/-
  THE STEPS THAT BYTES SAY: the document's side, and the law ScriptDecodes.
-/
import Derived.Test.YtajpaagbfmjacaaGreatDoorZS6
namespace Go.Proofs.YtajpaagbfmjacaaGreatDoor.Am
set_option linter.unusedSimpArgs false
set_option linter.unusedVariables false
open Go Go.Proofs
attribute [local irreducible] wpA
attribute [-simp] splice

def E38 : Env := E37.put 26 [] spTold
theorem E38_ok : EnvOk Tryz.prog E38 := Env.put_ok _ E37_ok told_ok
attribute [simp] E38 spTold
def spDecR : Spec
  | [.fsl 1 es], [] => (inB es).bind fun l => if l.length ≤ 1000000 then some (.ret (.fsl 11 ((decS l 300).map avStp)), []) else none
  | _, _ => none
/-- How the steps so far are held. -/
def oAtR (o : List Stp) : AV := if o = [] then .v (.slice none 0 0) else .osl 0
def oMR (o : List Stp) : List Blk := if o = [] then [] else [.arr 33 11 (o.map avStp)]
set_option maxHeartbeats 16000000 in
theorem decR_ok : CallOk Tryz.prog 10 spDecR := by
  refine ok_10 E38_ok spDecR fun args mem r mem1 h => ?_
  unfold spDecR at h
  split at h
  case h_2 => cases h
  rename_i es
  obtain ⟨l, hl, h1⟩ := Option.bind_eq_some_iff.1 h
  clear h
  have := inB_some es l hl
  subst this
  clear hl
  obtain ⟨hll, h2⟩ := if_some h1
  cases h2
  clear h1
  unfold ac_10
  repeat' with_reducible first
  | refine stp ?_ | refine seg_both ?_ ?_ | refine seg_case (fun x h => ?_) (fun h => ?_) | refine seg_gate (fun h => ?_) (fun h => ?_) | refine seg_need ?_ ?_ | refine cond_v (fun h => ?_) (fun h => ?_)
  | refine seg_eval (by simp -dsimp -implicitDefEqProofs; rfl) ?_
  refine wp_loop' (fun j ts mm => ∃ (r : List UInt8) (o : List Stp), r.length = j ∧ r.length ≤ 1000000 ∧ o.length ≤ 300 ∧ o ++ decS r (300 - o.length) = decS l 300 ∧ ts = [(0, .fsl 1 (bv r)), (3, oAtR o)] ∧ mm = oMR o) l.length ?_ ?_
  · exact ⟨[], [], by simp, rfl, l, [], rfl, hll, by simp, by simp, by simp [oAtR], by simp [oMR]⟩
  · rintro j ts mm ⟨r, o, hj, hr, ho, hd, rfl, rfl⟩
    have hmod : ∀ x : UInt8, ((x.toNat : Int) % 7) = ((x.toNat % 7 : Nat) : Int) := fun x => by omega
    cases r with
    | nil =>
      simp only [decS_nil, List.append_nil] at hd
      rw [← hd]
      by_cases h0 : o = []
      · subst h0
        simp only [oAtR, oMR, if_true, List.map_nil]
        repeat' with_reducible first
        | refine stp ?_ | refine seg_both ?_ ?_ | refine seg_case (fun x h => ?_) (fun h => ?_) | refine seg_gate (fun h => ?_) (fun h => ?_) | refine seg_need ?_ ?_ | refine cond_v (fun h => ?_) (fun h => ?_)
        | refine seg_eval (by simp -dsimp -implicitDefEqProofs; rfl) ?_
        all_goals first
          | omega
          | exact post_finS rfl rfl (.nilv 11) ⟨[], [], rfl, rfl, rfl, rfl⟩
          | trace_state
      · simp only [oAtR, oMR, h0, if_false]
        repeat' with_reducible first
        | refine stp ?_ | refine seg_both ?_ ?_ | refine seg_case (fun x h => ?_) (fun h => ?_) | refine seg_gate (fun h => ?_) (fun h => ?_) | refine seg_need ?_ ?_ | refine cond_v (fun h => ?_) (fun h => ?_)
        | refine seg_eval (by simp -dsimp -implicitDefEqProofs; rfl) ?_
        all_goals first
          | omega
          | exact post_fin rfl rfl ⟨[0], [], rfl, rfl, rfl, rfl⟩
          | trace_state
    | cons x r =>
      have hlen : (0 : Int) < ((bv (x :: r)).length : Int) := by rw [bv_length]; simp
      have k1 : decide ((0 : Int) < ((bv (x :: r)).length : Int)) = true := by rw [decide_eq_true_eq]; exact hlen
      have mW : ((x.toNat : Int).tmod 7) = ((x.toNat % 7 : Nat) : Int) := rfl
      have x0 := u8w x
      have hjr : r.length + 1 = j := by simpa using hj
      have hrr : r.length ≤ 1000000 := by simp at hr; omega
      have htl : (bv (x :: r)).tail = bv r := rfl
      by_cases hfull : o.length < 300
      · have k2 : decide ((o.length : Int) < 300) = true := by rw [decide_eq_true_eq]; omega
        have k2' : decide (o.length < 300) = true := by simp [hfull]
        by_cases hw : x.toNat % 7 = 0
        · rw [decS_zero hw] at hd
          by_cases h0 : o = []
          · subst h0
            simp only [oAtR, oMR, if_true]
            repeat' with_reducible first
            | refine stp ?_ | refine seg_both ?_ ?_ | refine seg_case (fun x h => ?_) (fun h => ?_) | refine seg_gate (fun h => ?_) (fun h => ?_) | refine seg_need ?_ ?_ | refine cond_v (fun h => ?_) (fun h => ?_)
            | refine seg_eval (by simp -dsimp -implicitDefEqProofs [k1, x0, mW, hw]; rfl) ?_
            all_goals first
              | omega
              | exact ⟨r.length, by omega, [], [], by simp, rfl, r, [], rfl, hrr, by simp, hd, by simp [htl], by simp⟩
              | trace_state
          · simp only [oAtR, oMR, h0, if_false]
            repeat' with_reducible first
            | refine stp ?_ | refine seg_both ?_ ?_ | refine seg_case (fun x h => ?_) (fun h => ?_) | refine seg_gate (fun h => ?_) (fun h => ?_) | refine seg_need ?_ ?_ | refine cond_v (fun h => ?_) (fun h => ?_)
            | refine seg_eval (by simp -dsimp -implicitDefEqProofs [k1, k2, k2', x0, mW, hw]; rfl) ?_
            all_goals first
              | omega
              | exact ⟨r.length, by omega, [], [0], by simp, rfl, r, o, rfl, hrr, ho, hd, by simp [htl, h0], by simp [h0]⟩
              | trace_state
        · have hw0 : (((x.toNat % 7 : Nat) : Int) == (0 : Int)) = false := by simp; omega
          have w7 : x.toNat % 7 < 7 := Nat.mod_lt _ (by decide)
          obtain ⟨w, hwe⟩ : ∃ w, w = x.toNat % 7 := ⟨_, rfl⟩
          have hwe' := hwe.symm
          rw [← hwe] at mW hw0 w7 hw
          obtain ⟨sz, hsz⟩ : ∃ n, n = sizS (w : Int) := ⟨_, rfl⟩
          have hs16 := sizS_le (w : Int)
          rw [← hsz] at hs16
          have hlc : (((bv (x :: r)).length : Nat) : Int) = (r.length : Int) + 1 := by rw [bv_length]; rfl
          by_cases hlt : r.length < sz
          · have k3 : decide (((r.length : Nat) : Int) + 1 < ((sz + 1 : Nat) : Int)) = true := by rw [decide_eq_true_eq]; omega
            have k3' : decide (r.length < sz) = true := by simp [hlt]
            rw [decS_short (by rw [← hwe]; exact hw) (by rw [← hwe, ← hsz]; exact hlt), List.append_nil] at hd
            rw [← hd]
            by_cases h0 : o = []
            · subst h0
              simp only [oAtR, oMR, if_true, List.map_nil]
              repeat' with_reducible first
              | refine stp ?_ | refine seg_both ?_ ?_ | refine seg_case (fun x h => ?_) (fun h => ?_) | refine seg_gate (fun h => ?_) (fun h => ?_) | refine seg_need ?_ ?_ | refine cond_v (fun h => ?_) (fun h => ?_)
              | refine seg_eval (by simp -dsimp -implicitDefEqProofs [k1, x0, mW, hw0, ← hsz, k3, k3']; rfl) ?_
              all_goals first
                | omega
                | exact post_finS rfl rfl (.nilv 11) ⟨[], [], rfl, rfl, rfl, rfl⟩
                | trace_state
            · simp only [oAtR, oMR, h0, if_false]
              repeat' with_reducible first
              | refine stp ?_ | refine seg_both ?_ ?_ | refine seg_case (fun x h => ?_) (fun h => ?_) | refine seg_gate (fun h => ?_) (fun h => ?_) | refine seg_need ?_ ?_ | refine cond_v (fun h => ?_) (fun h => ?_)
              | refine seg_eval (by simp -dsimp -implicitDefEqProofs [k1, k2, k2', x0, mW, hw0, ← hsz, k3, k3']; rfl) ?_
              all_goals first
                | omega
                | exact post_fin rfl rfl ⟨[0], [], rfl, rfl, rfl, rfl⟩
                | trace_state
          · have k3 : decide (((r.length : Nat) : Int) + 1 < ((sz + 1 : Nat) : Int)) = false := by rw [decide_eq_false_iff_not]; omega
            have k3' : decide (r.length < sz) = false := by simp [hlt]
            have htk : (bv (x :: r)).take (sz + 1) = bv (x :: r.take sz) := by rw [bv_take]; rfl
            have hdk : (bv (x :: r)).drop (sz + 1) = bv (r.drop sz) := by rw [bv_drop]; rfl
            have hin1 := inB_bv (x :: r.take sz)
            have hwn : x.toNat % 7 ≠ 0 := by rw [← hwe]; exact hw
            have hle : sz ≤ r.length := by omega
            have hp0 : (0 : Int) ≤ (sz : Int) + 1 := by omega
            have hcl : ¬w = 0 ∧ sz = sizS ((x.toNat : Int) % 7) := ⟨hw, by rw [show ((x.toNat : Int) % 7) = (w : Int) by omega]; exact hsz⟩
            have hlr : (r.take sz).length = sz := by simp; omega
            have hmin : min sz r.length = sz := by omega
            have w1 : (1 : Int) ≤ (w : Int) := by omega
            have w6 : (w : Int) ≤ 6 := by omega
            rw [decS_one (by rw [← hwe]; exact hw) (by rw [← hwe, ← hsz]; exact hlt) (by omega), ← hwe, ← hsz] at hd
            have hbv : (bv r).take sz = bv (r.take sz) := bv_take r sz
            have hbd : (bv r).drop sz = bv (r.drop sz) := bv_drop r sz
            have hb0 : (bv r).length - sz = r.length - sz := by rw [bv_length]
            have hin := inB_bv (r.take sz)
            have hdl : (r.drop sz).length = r.length - sz := by simp
            by_cases h0 : o = []
            · subst h0
              simp only [oAtR, oMR, if_true]
              repeat' with_reducible first
              | refine stp ?_ | refine seg_both ?_ ?_ | refine seg_case (fun x h => ?_) (fun h => ?_) | refine seg_gate (fun h => ?_) (fun h => ?_) | refine seg_need ?_ ?_ | refine cond_v (fun h => ?_) (fun h => ?_)
              | refine seg_eval (by simp -dsimp -implicitDefEqProofs [k1, x0, mW, hw0, ← hsz, k3, k3', htl, htk, hdk, hin1, hwe', hwn, hle, hp0, hbv, hbd, hin, hlr, hmin, w1, w6, avStp_mapId, avStp_shaped, avStp_bare, avStp_cells, Int.toNat_natCast]; rfl) ?_
              all_goals first
                | omega
                | exact hcl
                | exact ⟨rfl, rfl⟩
                | exact ⟨by omega, by omega, rfl⟩
                | exact ⟨by omega, by omega, rfl, fun _ _ => rfl⟩
                | exact rfl
                | exact ⟨r.length - sz, by omega, [], [1], by simp, rfl, r.drop sz, [stpB w (r.take sz)], hdl, by omega, by simp, by simpa using hd, by simp, by simp⟩
                | trace_state
            · simp only [oAtR, oMR, h0, if_false]
              repeat' with_reducible first
              | refine stp ?_ | refine seg_both ?_ ?_ | refine seg_case (fun x h => ?_) (fun h => ?_) | refine seg_gate (fun h => ?_) (fun h => ?_) | refine seg_need ?_ ?_ | refine cond_v (fun h => ?_) (fun h => ?_)
              | refine seg_eval (by simp -dsimp -implicitDefEqProofs [k1, k2, k2', x0, mW, hw0, ← hsz, k3, k3', htl, htk, hdk, hin1, hwe', hwn, hle, hp0, hbv, hbd, hin, hlr, hmin, w1, w6, avStp_mapId, avStp_shaped, avStp_bare, avStp_cells, Int.toNat_natCast]; rfl) ?_
              all_goals first
                | omega
                | exact hcl
                | exact ⟨rfl, rfl⟩
                | exact ⟨by omega, by omega, rfl⟩
                | exact ⟨by omega, by omega, rfl, fun _ _ => rfl⟩
                | exact rfl
                | exact ⟨r.length - sz, by omega, [], [2], by simp, rfl, r.drop sz, o ++ [stpB w (r.take sz)], hdl, by omega, by simp; omega, by simpa [Nat.sub_sub] using hd, by simp, by simp⟩
                | trace_state
      · have k2 : decide ((o.length : Int) < 300) = false := by rw [decide_eq_false_iff_not]; omega
        have k2' : decide (o.length < 300) = false := by simp [hfull]
        have hfin : 300 - o.length = 0 := by omega
        rw [hfin, decS_full, List.append_nil] at hd
        rw [← hd]
        have h0 : o ≠ [] := by intro h; subst h; simp at hfull
        simp only [oAtR, oMR, h0, if_false]
        repeat' with_reducible first
        | refine stp ?_ | refine seg_both ?_ ?_ | refine seg_case (fun x h => ?_) (fun h => ?_) | refine seg_gate (fun h => ?_) (fun h => ?_) | refine seg_need ?_ ?_ | refine cond_v (fun h => ?_) (fun h => ?_)
        | refine seg_eval (by simp -dsimp -implicitDefEqProofs [k1, k2, k2']; rfl) ?_
        all_goals first
          | omega
          | exact post_fin rfl rfl ⟨[0], [], rfl, rfl, rfl, rfl⟩
          | trace_state

def E39 : Env := E38.put 10 [] spDecR
theorem E39_ok : EnvOk Tryz.prog E39 := Env.put_ok _ E38_ok decR_ok
attribute [simp] E39 spDecR
set_option maxHeartbeats 16000000 in
theorem decodes_ok : CallOk Tryz.prog 3 spBytes := by
  refine ok_3 E39_ok spBytes fun args mem r mem1 h => ?_
  unfold spBytes at h
  split at h
  case h_2 => cases h
  rename_i es
  obtain ⟨l, hl, h1⟩ := Option.bind_eq_some_iff.1 h
  clear h
  have := inB_some es l hl
  subst this
  clear hl
  cases h1
  unfold ac_3
  have hin := inB_bv l
  by_cases hbig : 2000 < l.length
  · have k1 : decide ((2000 : Int) < ((l.length : Nat) : Int)) = true := by rw [decide_eq_true_eq]; omega
    have k2 : decide (2000 < l.length) = true := by simp [hbig]
    repeat' with_reducible first
    | refine stp ?_ | refine seg_both ?_ ?_ | refine seg_case (fun x h => ?_) (fun h => ?_) | refine seg_gate (fun h => ?_) (fun h => ?_) | refine seg_need ?_ ?_ | refine cond_v (fun h => ?_) (fun h => ?_)
    | refine seg_eval (by simp -dsimp -implicitDefEqProofs [k1, k2]; rfl) ?_
    all_goals first
      | omega
      | exact post_fin rfl rfl ⟨[], [], rfl, rfl, rfl, rfl⟩
      | trace_state
  · have k1 : decide ((2000 : Int) < ((l.length : Nat) : Int)) = false := by rw [decide_eq_false_iff_not]; omega
    have k2 : decide (2000 < l.length) = false := by simp [hbig]
    have hll : l.length ≤ 1000000 := by omega
    have hlen := decS_len 300 l
    obtain ⟨A, hA⟩ : ∃ A, A = decS l 300 := ⟨_, rfl⟩
    rw [← hA] at hlen
    repeat' with_reducible first
    | refine stp ?_ | refine seg_both ?_ ?_ | refine seg_case (fun x h => ?_) (fun h => ?_) | refine seg_gate (fun h => ?_) (fun h => ?_) | refine seg_need ?_ ?_ | refine cond_v (fun h => ?_) (fun h => ?_)
    | refine seg_eval (by simp -dsimp -implicitDefEqProofs [k1, k2, hll, hin, ← hA]; rfl) ?_
    refine wp_loop' (fun j ts mm => ∃ i : Nat, i + j = A.length ∧ ts = [(3, .fsl 11 (A.map avStp)), (4, .fsl 11 (A.map avStp)), (21, .v (.int .i64 A.length)), (22, .v (.int .i64 i))] ∧ mm = []) A.length ?_ ?_
    · exact ⟨[], [], by simp, rfl, 0, by omega, by simp, rfl⟩
    · rintro j ts mm ⟨i, hij, rfl, rfl⟩
      by_cases hlt : i < A.length
      · obtain ⟨x, hx⟩ : ∃ x, A[i]? = some x := ⟨_, List.getElem?_eq_getElem hlt⟩
        have hd : decide ((i : Int) < ((A.length : Nat) : Int)) = true := by rw [decide_eq_true_eq]; omega
        have hd2 : decide (i < A.length) = true := by simp [hlt]
        have h64 : IntKind.wrap .i64 ((i : Int) + 1) = ((i + 1 : Nat) : Int) := by rw [IntWalk.i64_in _ (by omega)]; rfl
        obtain ⟨w, a, b, at_, k', f, q, t, add, id⟩ := x
        have ht : (t == t) = true := by rw [beq_bytes]; simp
        repeat' with_reducible first
        | refine stp ?_ | refine seg_both ?_ ?_ | refine seg_case (fun x h => ?_) (fun h => ?_) | refine seg_gate (fun h => ?_) (fun h => ?_) | refine seg_need ?_ ?_ | refine cond_v (fun h => ?_) (fun h => ?_)
        | refine seg_eval (by simp -dsimp -implicitDefEqProofs [hd, hd2, hx, avStp, h64, ht]; rfl) ?_
        all_goals first
          | omega
          | exact ⟨j - 1, by omega, [], [], by simp, rfl, i + 1, by omega, by simp, by simp⟩
          | trace_state
      · have hd : decide ((i : Int) < ((A.length : Nat) : Int)) = false := by rw [decide_eq_false_iff_not]; omega
        have hd2 : decide (i < A.length) = false := by simp [hlt]
        repeat' with_reducible first
        | refine stp ?_ | refine seg_both ?_ ?_ | refine seg_case (fun x h => ?_) (fun h => ?_) | refine seg_gate (fun h => ?_) (fun h => ?_) | refine seg_need ?_ ?_ | refine cond_v (fun h => ?_) (fun h => ?_)
        | refine seg_eval (by simp -dsimp -implicitDefEqProofs [hd, hd2]; rfl) ?_
        all_goals first
          | omega
          | exact post_fin rfl rfl ⟨[], [], rfl, rfl, rfl, rfl⟩
          | trace_state
end Go.Proofs.YtajpaagbfmjacaaGreatDoor.Am
