/-
  THE CHANGE OF A TEXT, on both sides; the answers that the document fixes.
-/
import Derived.Test.YtjmgnodeohmboaaDoorR1
namespace Go.Proofs.YtjmgnodeohmboaaDoor.Am
set_option linter.unusedSimpArgs false
set_option linter.unusedVariables false
open Go Go.Proofs
attribute [local irreducible] wpA
attribute [-simp] splice

theorem ba_beq (a b : ByteArray) : (a == b) = decide (a = b) := by
  rcases a with ⟨x⟩
  rcases b with ⟨y⟩
  show (x == y) = _
  rw [Bool.eq_iff_iff]
  simp
theorem ba_bne (a b : ByteArray) : (a != b) = !decide (a = b) := by unfold bne; rw [ba_beq]

/-- The change whose text it is. -/
def changeAt (k : Nat) : Bool × Nat := (k % 2 == 0, k / 2)
def findT (s : ByteArray) : Option (Bool × Nat) := ((List.range 32).find? fun k => textV (changeAt k).1 (changeAt k).2 == s).map changeAt
def parseV (s : ByteArray) : (Bool × Nat) × Int := match findT s with
  | some c => (c, 0)
  | none => ((false, 0), 4)

def sgn (a : Bool) : ByteArray := if a = true then plusS else minusS
def parsesTo (a : Bool) (i : Nat) : Bool := match Lib.parseUintB 4 ((textV a i).extract 1 (textV a i).size).data.toList with
  | .ok u => u == i
  | _ => false
theorem text_facts : ∀ a : Bool, ∀ i : Fin 16, (hasP (textV a i.val) plusS == a && hasP (textV a i.val) minusS == !a && parsesTo a i.val && (findT (textV a i.val) == some (a, i.val))) = true := by decide +kernel

theorem text_of {a : Bool} {i : Nat} (hi : i < 16) : hasP (textV a i) plusS = a ∧ hasP (textV a i) minusS = !a ∧ Lib.parseUintB 4 ((textV a i).extract 1 (textV a i).size).data.toList = .ok i ∧ findT (textV a i) = some (a, i) := by
  have h := text_facts a ⟨i, hi⟩
  simp only [Bool.and_eq_true, beq_iff_eq] at h
  obtain ⟨⟨⟨h1, h2⟩, h3⟩, h4⟩ := h
  refine ⟨h1, h2, ?_, h4⟩
  unfold parsesTo at h3
  split at h3
  · rename_i u hu; rw [hu]; simp at h3; rw [h3]
  · cases h3
theorem find_some {s : ByteArray} {c : Bool × Nat} (h : findT s = some c) : c.2 < 16 ∧ textV c.1 c.2 = s := by
  unfold findT at h
  rw [Option.map_eq_some_iff] at h
  obtain ⟨k, hk, rfl⟩ := h
  have h1 := List.find?_some hk
  have h2 := List.mem_of_find?_eq_some hk
  rw [ba_beq, decide_eq_true_eq] at h1
  simp at h2
  exact ⟨by unfold changeAt; simp only; omega, h1⟩
theorem find_none {s : ByteArray} (h : findT s = none) {a : Bool} {i : Nat} (hi : i < 16) : textV a i ≠ s := by
  intro e
  have := (text_of (a := a) hi).2.2.2
  rw [e, h] at this
  cases this

/-- The text behind its sign. -/
def restV (s : ByteArray) : ByteArray := if hasP s plusS = true then trimP s plusS else trimP s minusS
/-- What the program makes of a text's number. -/
def madeV (s : ByteArray) (n : Lib.NumEnd Nat) : (Bool × Nat) × Int := match n with
  | .ok u => if textV (hasP s plusS) u = s then ((hasP s plusS, u), 0) else ((false, 0), 4)
  | _ => ((false, 0), 4)
theorem made_parse (s : ByteArray) : madeV s (Lib.parseUintB 4 (restV s).data.toList) = parseV s := by
  cases hf : findT s with
  | some c =>
    obtain ⟨hc, hs⟩ := find_some hf
    obtain ⟨a, i⟩ := c
    simp only at hc hs
    obtain ⟨h1, h2, h3, -⟩ := text_of (a := a) hc
    rw [hs] at h1 h2 h3
    have hr : restV s = s.extract 1 s.size := by
      unfold restV trimP
      cases a
      · rw [h1, h2]; rfl
      · rw [h1]; rfl
    rw [hr, h3]
    unfold madeV parseV
    simp only [hf, h1, hs, if_true]
  | none =>
    have e : parseV s = ((false, 0), 4) := by unfold parseV; rw [hf]
    rw [e]
    unfold madeV
    split
    · rename_i u hu
      have hle := Lib.parseUintB_le hu
      rw [if_neg (find_none hf (by omega))]
    · rfl

def spParse : Spec
  | [.v (.string s)], [] => if s.size ≤ 1000 then some (.ret (.tup [.agg [.v (.bool (parseV s).1.1), .v (.int .u8 ((parseV s).1.2 : Nat))], .v (.int .i64 (parseV s).2)]), []) else none
  | _, _ => none
theorem extract_le (s : ByteArray) (a b : Nat) : (s.extract a b).size ≤ s.size := by rw [ByteArray.size_extract]; omega
theorem trim_le (s p : ByteArray) : (trimP s p).size ≤ s.size := by
  unfold trimP
  split
  · exact extract_le _ _ _
  · exact Nat.le_refl _

set_option maxHeartbeats 2000000 in
theorem parse_ok : CallOk Tryd.prog 14 spParse := by
  refine ok_14 (Env.put_ok [] (Env.put_ok [] (Env.put_ok [] (Env.put_ok [] (Env.none_ok _) cutP_ok) trimP_ok) num_ok) text_ok) spParse fun args mem r mem1 h => ?_
  unfold spParse at h
  split at h
  case h_2 => cases h
  rename_i s
  obtain ⟨hs, h4⟩ := if_some h
  cases h4
  clear h
  rw [← made_parse s]
  have t1 : (trimP s plusS).size ≤ 281474976710656 := by have := trim_le s plusS; omega
  have t2 : (trimP s minusS).size ≤ 281474976710656 := by have := trim_le s minusS; omega
  have p0 : (⟨#[43]⟩ : ByteArray) = plusS := rfl
  have m0 : (⟨#[45]⟩ : ByteArray) = minusS := rfl
  unfold ac_14
  cases hp : hasP s plusS
  · have er : restV s = trimP s minusS := by unfold restV; rw [hp]; rfl
    rw [er]
    rcases hn : Lib.parseUintB 4 (trimP s minusS).data.toList with u | _ | _
    · have hu : u ≤ 15 := Lib.parseUintB_le hn
      have hw : IntKind.wrap .u8 (u : Int) = (u : Int) := IntWalk.u8_in _ (by omega)
      have hu2 : (u : Int) < 256 := by omega
      have en : numOf (trimP s minusS) = .tup [.v (.int .u64 u), .v .nilIface] := by unfold numOf; rw [hn]
      by_cases ht : textV false u = s
      · have e : madeV s (.ok u) = ((false, u), 0) := by unfold madeV; rw [hp]; simp only; rw [if_pos ht]
        have c1 : (textV false u != s) = false := by rw [ba_bne]; simp [ht]
        rw [e]
        repeat' with_reducible first
          | refine wp_regionS (seg_eval (by simp -dsimp -implicitDefEqProofs [spCutP, spTrimP, spNum, spText, p0, m0, hp, t1, t2, en, hw, hu2, c1, Int.toNat_natCast]; rfl) ?_)
          | refine wp_region (seg_eval (by simp -dsimp -implicitDefEqProofs [spCutP, spTrimP, spNum, spText, p0, m0, hp, t1, t2, en, hw, hu2, c1, Int.toNat_natCast]; rfl) ?_)
          | refine wp_drawsS (seg_eval (by simp -dsimp -implicitDefEqProofs [spCutP, spTrimP, spNum, spText, p0, m0, hp, t1, t2, en, hw, hu2, c1, Int.toNat_natCast]; rfl) ?_)
          | refine wp_draws (seg_eval (by simp -dsimp -implicitDefEqProofs [spCutP, spTrimP, spNum, spText, p0, m0, hp, t1, t2, en, hw, hu2, c1, Int.toNat_natCast]; rfl) ?_)
          | refine seg_fin ?_
          | refine seg_pan ?_
          | refine seg_both ?_ ?_
          | refine seg_case (fun x h => ?_) (fun h => ?_)
          | refine seg_gate (fun h => ?_) (fun h => ?_)
          | refine seg_need ?_ ?_
          | refine wp_assoc ?_ | refine wp_skipS ?_ | refine wp_retS ?_ | refine wp_exitS ?_ | refine wp_dropS (wp_eqT (by simp -dsimp -implicitDefEqProofs; rfl) ?_) | refine wp_sealS (by simp -dsimp -implicitDefEqProofs; rfl) ?_ | refine wp_seal (by simp -dsimp -implicitDefEqProofs; rfl) ?_ | refine wp_pack_out ?_ | refine wp_blockS ?_ | refine wp_skip' ?_ | refine wp_ret' ?_ | refine wp_exit' ?_ | refine wp_drop (wp_eqT (by simp -dsimp -implicitDefEqProofs; rfl) ?_) | refine wp_block' ?_
          | refine wp_condVS (by simp -dsimp -implicitDefEqProofs; rfl) ?_
          | refine wp_condV (by simp -dsimp -implicitDefEqProofs; rfl) ?_
          | refine cond_t ?_ | refine cond_f ?_ | refine cond_v (fun h => ?_) (fun h => ?_)
          | refine post_then ?_ | refine post_thenE ?_ | refine post_thenP ?_ | refine post_blkP ?_ | refine post_thenR ?_ | refine post_blkN ?_ | refine post_blkE ?_ | refine post_blkF rfl ?_ | refine post_blkR ?_
          | refine seg_eval (by simp -dsimp -implicitDefEqProofs [spCutP, spTrimP, spNum, spText, p0, m0, hp, t1, t2, en, hw, hu2, c1, Int.toNat_natCast]; rfl) ?_
        all_goals first
          | omega
          | exact post_fin rfl rfl ⟨[], [], rfl, rfl, rfl, rfl⟩
          | trace_state
      · have e : madeV s (.ok u) = ((false, 0), 4) := by unfold madeV; rw [hp]; simp only; rw [if_neg ht]
        have c1 : (textV false u != s) = true := by rw [ba_bne]; simp [ht]
        rw [e]
        repeat' with_reducible first
          | refine wp_regionS (seg_eval (by simp -dsimp -implicitDefEqProofs [spCutP, spTrimP, spNum, spText, p0, m0, hp, t1, t2, en, hw, hu2, c1, Int.toNat_natCast]; rfl) ?_)
          | refine wp_region (seg_eval (by simp -dsimp -implicitDefEqProofs [spCutP, spTrimP, spNum, spText, p0, m0, hp, t1, t2, en, hw, hu2, c1, Int.toNat_natCast]; rfl) ?_)
          | refine wp_drawsS (seg_eval (by simp -dsimp -implicitDefEqProofs [spCutP, spTrimP, spNum, spText, p0, m0, hp, t1, t2, en, hw, hu2, c1, Int.toNat_natCast]; rfl) ?_)
          | refine wp_draws (seg_eval (by simp -dsimp -implicitDefEqProofs [spCutP, spTrimP, spNum, spText, p0, m0, hp, t1, t2, en, hw, hu2, c1, Int.toNat_natCast]; rfl) ?_)
          | refine seg_fin ?_
          | refine seg_pan ?_
          | refine seg_both ?_ ?_
          | refine seg_case (fun x h => ?_) (fun h => ?_)
          | refine seg_gate (fun h => ?_) (fun h => ?_)
          | refine seg_need ?_ ?_
          | refine wp_assoc ?_ | refine wp_skipS ?_ | refine wp_retS ?_ | refine wp_exitS ?_ | refine wp_dropS (wp_eqT (by simp -dsimp -implicitDefEqProofs; rfl) ?_) | refine wp_sealS (by simp -dsimp -implicitDefEqProofs; rfl) ?_ | refine wp_seal (by simp -dsimp -implicitDefEqProofs; rfl) ?_ | refine wp_pack_out ?_ | refine wp_blockS ?_ | refine wp_skip' ?_ | refine wp_ret' ?_ | refine wp_exit' ?_ | refine wp_drop (wp_eqT (by simp -dsimp -implicitDefEqProofs; rfl) ?_) | refine wp_block' ?_
          | refine wp_condVS (by simp -dsimp -implicitDefEqProofs; rfl) ?_
          | refine wp_condV (by simp -dsimp -implicitDefEqProofs; rfl) ?_
          | refine cond_t ?_ | refine cond_f ?_ | refine cond_v (fun h => ?_) (fun h => ?_)
          | refine post_then ?_ | refine post_thenE ?_ | refine post_thenP ?_ | refine post_blkP ?_ | refine post_thenR ?_ | refine post_blkN ?_ | refine post_blkE ?_ | refine post_blkF rfl ?_ | refine post_blkR ?_
          | refine seg_eval (by simp -dsimp -implicitDefEqProofs [spCutP, spTrimP, spNum, spText, p0, m0, hp, t1, t2, en, hw, hu2, c1, Int.toNat_natCast]; rfl) ?_
        all_goals first
          | omega
          | exact post_fin rfl rfl ⟨[], [], rfl, rfl, rfl, rfl⟩
          | trace_state
    · have en : numOf (trimP s minusS) = .tup [.v (.int .u64 0), .ifc 76 .any] := by unfold numOf; rw [hn]
      have hw : IntKind.wrap .u8 0 = 0 := IntWalk.u8_in _ (by omega)
      show wpA _ _ _ (finQ _ _ (Res.ret (.tup [.agg [.v (.bool false), .v (.int .u8 ((0 : Nat) : Int))], .v (.int .i64 4)])) _) _ _
      repeat' with_reducible first
        | refine wp_regionS (seg_eval (by simp -dsimp -implicitDefEqProofs [spCutP, spTrimP, spNum, spText, p0, m0, hp, t1, t2, en, hw, Int.toNat_natCast]; rfl) ?_)
        | refine wp_region (seg_eval (by simp -dsimp -implicitDefEqProofs [spCutP, spTrimP, spNum, spText, p0, m0, hp, t1, t2, en, hw, Int.toNat_natCast]; rfl) ?_)
        | refine wp_drawsS (seg_eval (by simp -dsimp -implicitDefEqProofs [spCutP, spTrimP, spNum, spText, p0, m0, hp, t1, t2, en, hw, Int.toNat_natCast]; rfl) ?_)
        | refine wp_draws (seg_eval (by simp -dsimp -implicitDefEqProofs [spCutP, spTrimP, spNum, spText, p0, m0, hp, t1, t2, en, hw, Int.toNat_natCast]; rfl) ?_)
        | refine seg_fin ?_
        | refine seg_pan ?_
        | refine seg_both ?_ ?_
        | refine seg_case (fun x h => ?_) (fun h => ?_)
        | refine seg_gate (fun h => ?_) (fun h => ?_)
        | refine seg_need ?_ ?_
        | refine wp_assoc ?_ | refine wp_skipS ?_ | refine wp_retS ?_ | refine wp_exitS ?_ | refine wp_dropS (wp_eqT (by simp -dsimp -implicitDefEqProofs; rfl) ?_) | refine wp_sealS (by simp -dsimp -implicitDefEqProofs; rfl) ?_ | refine wp_seal (by simp -dsimp -implicitDefEqProofs; rfl) ?_ | refine wp_pack_out ?_ | refine wp_blockS ?_ | refine wp_skip' ?_ | refine wp_ret' ?_ | refine wp_exit' ?_ | refine wp_drop (wp_eqT (by simp -dsimp -implicitDefEqProofs; rfl) ?_) | refine wp_block' ?_
        | refine wp_condVS (by simp -dsimp -implicitDefEqProofs; rfl) ?_
        | refine wp_condV (by simp -dsimp -implicitDefEqProofs; rfl) ?_
        | refine cond_t ?_ | refine cond_f ?_ | refine cond_v (fun h => ?_) (fun h => ?_)
        | refine post_then ?_ | refine post_thenE ?_ | refine post_thenP ?_ | refine post_blkP ?_ | refine post_thenR ?_ | refine post_blkN ?_ | refine post_blkE ?_ | refine post_blkF rfl ?_ | refine post_blkR ?_
        | refine seg_eval (by simp -dsimp -implicitDefEqProofs [spCutP, spTrimP, spNum, spText, p0, m0, hp, t1, t2, en, hw, Int.toNat_natCast]; rfl) ?_
      all_goals first
        | omega
        | exact post_fin rfl rfl ⟨[], [], rfl, rfl, rfl, rfl⟩
        | trace_state
    · have en : numOf (trimP s minusS) = .tup [.v (.int .u64 15), .ifc 76 .any] := by unfold numOf; rw [hn]
      have hw : IntKind.wrap .u8 15 = 15 := IntWalk.u8_in _ (by omega)
      show wpA _ _ _ (finQ _ _ (Res.ret (.tup [.agg [.v (.bool false), .v (.int .u8 ((0 : Nat) : Int))], .v (.int .i64 4)])) _) _ _
      repeat' with_reducible first
        | refine wp_regionS (seg_eval (by simp -dsimp -implicitDefEqProofs [spCutP, spTrimP, spNum, spText, p0, m0, hp, t1, t2, en, hw, Int.toNat_natCast]; rfl) ?_)
        | refine wp_region (seg_eval (by simp -dsimp -implicitDefEqProofs [spCutP, spTrimP, spNum, spText, p0, m0, hp, t1, t2, en, hw, Int.toNat_natCast]; rfl) ?_)
        | refine wp_drawsS (seg_eval (by simp -dsimp -implicitDefEqProofs [spCutP, spTrimP, spNum, spText, p0, m0, hp, t1, t2, en, hw, Int.toNat_natCast]; rfl) ?_)
        | refine wp_draws (seg_eval (by simp -dsimp -implicitDefEqProofs [spCutP, spTrimP, spNum, spText, p0, m0, hp, t1, t2, en, hw, Int.toNat_natCast]; rfl) ?_)
        | refine seg_fin ?_
        | refine seg_pan ?_
        | refine seg_both ?_ ?_
        | refine seg_case (fun x h => ?_) (fun h => ?_)
        | refine seg_gate (fun h => ?_) (fun h => ?_)
        | refine seg_need ?_ ?_
        | refine wp_assoc ?_ | refine wp_skipS ?_ | refine wp_retS ?_ | refine wp_exitS ?_ | refine wp_dropS (wp_eqT (by simp -dsimp -implicitDefEqProofs; rfl) ?_) | refine wp_sealS (by simp -dsimp -implicitDefEqProofs; rfl) ?_ | refine wp_seal (by simp -dsimp -implicitDefEqProofs; rfl) ?_ | refine wp_pack_out ?_ | refine wp_blockS ?_ | refine wp_skip' ?_ | refine wp_ret' ?_ | refine wp_exit' ?_ | refine wp_drop (wp_eqT (by simp -dsimp -implicitDefEqProofs; rfl) ?_) | refine wp_block' ?_
        | refine wp_condVS (by simp -dsimp -implicitDefEqProofs; rfl) ?_
        | refine wp_condV (by simp -dsimp -implicitDefEqProofs; rfl) ?_
        | refine cond_t ?_ | refine cond_f ?_ | refine cond_v (fun h => ?_) (fun h => ?_)
        | refine post_then ?_ | refine post_thenE ?_ | refine post_thenP ?_ | refine post_blkP ?_ | refine post_thenR ?_ | refine post_blkN ?_ | refine post_blkE ?_ | refine post_blkF rfl ?_ | refine post_blkR ?_
        | refine seg_eval (by simp -dsimp -implicitDefEqProofs [spCutP, spTrimP, spNum, spText, p0, m0, hp, t1, t2, en, hw, Int.toNat_natCast]; rfl) ?_
      all_goals first
        | omega
        | exact post_fin rfl rfl ⟨[], [], rfl, rfl, rfl, rfl⟩
        | trace_state
  · have er : restV s = trimP s plusS := by unfold restV; rw [if_pos hp]
    rw [er]
    rcases hn : Lib.parseUintB 4 (trimP s plusS).data.toList with u | _ | _
    · have hu : u ≤ 15 := Lib.parseUintB_le hn
      have hw : IntKind.wrap .u8 (u : Int) = (u : Int) := IntWalk.u8_in _ (by omega)
      have hu2 : (u : Int) < 256 := by omega
      have en : numOf (trimP s plusS) = .tup [.v (.int .u64 u), .v .nilIface] := by unfold numOf; rw [hn]
      by_cases ht : textV true u = s
      · have e : madeV s (.ok u) = ((true, u), 0) := by unfold madeV; rw [hp]; simp only; rw [if_pos ht]
        have c1 : (textV true u != s) = false := by rw [ba_bne]; simp [ht]
        rw [e]
        repeat' with_reducible first
          | refine wp_regionS (seg_eval (by simp -dsimp -implicitDefEqProofs [spCutP, spTrimP, spNum, spText, p0, m0, hp, t1, t2, en, hw, hu2, c1, Int.toNat_natCast]; rfl) ?_)
          | refine wp_region (seg_eval (by simp -dsimp -implicitDefEqProofs [spCutP, spTrimP, spNum, spText, p0, m0, hp, t1, t2, en, hw, hu2, c1, Int.toNat_natCast]; rfl) ?_)
          | refine wp_drawsS (seg_eval (by simp -dsimp -implicitDefEqProofs [spCutP, spTrimP, spNum, spText, p0, m0, hp, t1, t2, en, hw, hu2, c1, Int.toNat_natCast]; rfl) ?_)
          | refine wp_draws (seg_eval (by simp -dsimp -implicitDefEqProofs [spCutP, spTrimP, spNum, spText, p0, m0, hp, t1, t2, en, hw, hu2, c1, Int.toNat_natCast]; rfl) ?_)
          | refine seg_fin ?_
          | refine seg_pan ?_
          | refine seg_both ?_ ?_
          | refine seg_case (fun x h => ?_) (fun h => ?_)
          | refine seg_gate (fun h => ?_) (fun h => ?_)
          | refine seg_need ?_ ?_
          | refine wp_assoc ?_ | refine wp_skipS ?_ | refine wp_retS ?_ | refine wp_exitS ?_ | refine wp_dropS (wp_eqT (by simp -dsimp -implicitDefEqProofs; rfl) ?_) | refine wp_sealS (by simp -dsimp -implicitDefEqProofs; rfl) ?_ | refine wp_seal (by simp -dsimp -implicitDefEqProofs; rfl) ?_ | refine wp_pack_out ?_ | refine wp_blockS ?_ | refine wp_skip' ?_ | refine wp_ret' ?_ | refine wp_exit' ?_ | refine wp_drop (wp_eqT (by simp -dsimp -implicitDefEqProofs; rfl) ?_) | refine wp_block' ?_
          | refine wp_condVS (by simp -dsimp -implicitDefEqProofs; rfl) ?_
          | refine wp_condV (by simp -dsimp -implicitDefEqProofs; rfl) ?_
          | refine cond_t ?_ | refine cond_f ?_ | refine cond_v (fun h => ?_) (fun h => ?_)
          | refine post_then ?_ | refine post_thenE ?_ | refine post_thenP ?_ | refine post_blkP ?_ | refine post_thenR ?_ | refine post_blkN ?_ | refine post_blkE ?_ | refine post_blkF rfl ?_ | refine post_blkR ?_
          | refine seg_eval (by simp -dsimp -implicitDefEqProofs [spCutP, spTrimP, spNum, spText, p0, m0, hp, t1, t2, en, hw, hu2, c1, Int.toNat_natCast]; rfl) ?_
        all_goals first
          | omega
          | exact post_fin rfl rfl ⟨[], [], rfl, rfl, rfl, rfl⟩
          | trace_state
      · have e : madeV s (.ok u) = ((false, 0), 4) := by unfold madeV; rw [hp]; simp only; rw [if_neg ht]
        have c1 : (textV true u != s) = true := by rw [ba_bne]; simp [ht]
        rw [e]
        repeat' with_reducible first
          | refine wp_regionS (seg_eval (by simp -dsimp -implicitDefEqProofs [spCutP, spTrimP, spNum, spText, p0, m0, hp, t1, t2, en, hw, hu2, c1, Int.toNat_natCast]; rfl) ?_)
          | refine wp_region (seg_eval (by simp -dsimp -implicitDefEqProofs [spCutP, spTrimP, spNum, spText, p0, m0, hp, t1, t2, en, hw, hu2, c1, Int.toNat_natCast]; rfl) ?_)
          | refine wp_drawsS (seg_eval (by simp -dsimp -implicitDefEqProofs [spCutP, spTrimP, spNum, spText, p0, m0, hp, t1, t2, en, hw, hu2, c1, Int.toNat_natCast]; rfl) ?_)
          | refine wp_draws (seg_eval (by simp -dsimp -implicitDefEqProofs [spCutP, spTrimP, spNum, spText, p0, m0, hp, t1, t2, en, hw, hu2, c1, Int.toNat_natCast]; rfl) ?_)
          | refine seg_fin ?_
          | refine seg_pan ?_
          | refine seg_both ?_ ?_
          | refine seg_case (fun x h => ?_) (fun h => ?_)
          | refine seg_gate (fun h => ?_) (fun h => ?_)
          | refine seg_need ?_ ?_
          | refine wp_assoc ?_ | refine wp_skipS ?_ | refine wp_retS ?_ | refine wp_exitS ?_ | refine wp_dropS (wp_eqT (by simp -dsimp -implicitDefEqProofs; rfl) ?_) | refine wp_sealS (by simp -dsimp -implicitDefEqProofs; rfl) ?_ | refine wp_seal (by simp -dsimp -implicitDefEqProofs; rfl) ?_ | refine wp_pack_out ?_ | refine wp_blockS ?_ | refine wp_skip' ?_ | refine wp_ret' ?_ | refine wp_exit' ?_ | refine wp_drop (wp_eqT (by simp -dsimp -implicitDefEqProofs; rfl) ?_) | refine wp_block' ?_
          | refine wp_condVS (by simp -dsimp -implicitDefEqProofs; rfl) ?_
          | refine wp_condV (by simp -dsimp -implicitDefEqProofs; rfl) ?_
          | refine cond_t ?_ | refine cond_f ?_ | refine cond_v (fun h => ?_) (fun h => ?_)
          | refine post_then ?_ | refine post_thenE ?_ | refine post_thenP ?_ | refine post_blkP ?_ | refine post_thenR ?_ | refine post_blkN ?_ | refine post_blkE ?_ | refine post_blkF rfl ?_ | refine post_blkR ?_
          | refine seg_eval (by simp -dsimp -implicitDefEqProofs [spCutP, spTrimP, spNum, spText, p0, m0, hp, t1, t2, en, hw, hu2, c1, Int.toNat_natCast]; rfl) ?_
        all_goals first
          | omega
          | exact post_fin rfl rfl ⟨[], [], rfl, rfl, rfl, rfl⟩
          | trace_state
    · have en : numOf (trimP s plusS) = .tup [.v (.int .u64 0), .ifc 76 .any] := by unfold numOf; rw [hn]
      have hw : IntKind.wrap .u8 0 = 0 := IntWalk.u8_in _ (by omega)
      show wpA _ _ _ (finQ _ _ (Res.ret (.tup [.agg [.v (.bool false), .v (.int .u8 ((0 : Nat) : Int))], .v (.int .i64 4)])) _) _ _
      repeat' with_reducible first
        | refine wp_regionS (seg_eval (by simp -dsimp -implicitDefEqProofs [spCutP, spTrimP, spNum, spText, p0, m0, hp, t1, t2, en, hw, Int.toNat_natCast]; rfl) ?_)
        | refine wp_region (seg_eval (by simp -dsimp -implicitDefEqProofs [spCutP, spTrimP, spNum, spText, p0, m0, hp, t1, t2, en, hw, Int.toNat_natCast]; rfl) ?_)
        | refine wp_drawsS (seg_eval (by simp -dsimp -implicitDefEqProofs [spCutP, spTrimP, spNum, spText, p0, m0, hp, t1, t2, en, hw, Int.toNat_natCast]; rfl) ?_)
        | refine wp_draws (seg_eval (by simp -dsimp -implicitDefEqProofs [spCutP, spTrimP, spNum, spText, p0, m0, hp, t1, t2, en, hw, Int.toNat_natCast]; rfl) ?_)
        | refine seg_fin ?_
        | refine seg_pan ?_
        | refine seg_both ?_ ?_
        | refine seg_case (fun x h => ?_) (fun h => ?_)
        | refine seg_gate (fun h => ?_) (fun h => ?_)
        | refine seg_need ?_ ?_
        | refine wp_assoc ?_ | refine wp_skipS ?_ | refine wp_retS ?_ | refine wp_exitS ?_ | refine wp_dropS (wp_eqT (by simp -dsimp -implicitDefEqProofs; rfl) ?_) | refine wp_sealS (by simp -dsimp -implicitDefEqProofs; rfl) ?_ | refine wp_seal (by simp -dsimp -implicitDefEqProofs; rfl) ?_ | refine wp_pack_out ?_ | refine wp_blockS ?_ | refine wp_skip' ?_ | refine wp_ret' ?_ | refine wp_exit' ?_ | refine wp_drop (wp_eqT (by simp -dsimp -implicitDefEqProofs; rfl) ?_) | refine wp_block' ?_
        | refine wp_condVS (by simp -dsimp -implicitDefEqProofs; rfl) ?_
        | refine wp_condV (by simp -dsimp -implicitDefEqProofs; rfl) ?_
        | refine cond_t ?_ | refine cond_f ?_ | refine cond_v (fun h => ?_) (fun h => ?_)
        | refine post_then ?_ | refine post_thenE ?_ | refine post_thenP ?_ | refine post_blkP ?_ | refine post_thenR ?_ | refine post_blkN ?_ | refine post_blkE ?_ | refine post_blkF rfl ?_ | refine post_blkR ?_
        | refine seg_eval (by simp -dsimp -implicitDefEqProofs [spCutP, spTrimP, spNum, spText, p0, m0, hp, t1, t2, en, hw, Int.toNat_natCast]; rfl) ?_
      all_goals first
        | omega
        | exact post_fin rfl rfl ⟨[], [], rfl, rfl, rfl, rfl⟩
        | trace_state
    · have en : numOf (trimP s plusS) = .tup [.v (.int .u64 15), .ifc 76 .any] := by unfold numOf; rw [hn]
      have hw : IntKind.wrap .u8 15 = 15 := IntWalk.u8_in _ (by omega)
      show wpA _ _ _ (finQ _ _ (Res.ret (.tup [.agg [.v (.bool false), .v (.int .u8 ((0 : Nat) : Int))], .v (.int .i64 4)])) _) _ _
      repeat' with_reducible first
        | refine wp_regionS (seg_eval (by simp -dsimp -implicitDefEqProofs [spCutP, spTrimP, spNum, spText, p0, m0, hp, t1, t2, en, hw, Int.toNat_natCast]; rfl) ?_)
        | refine wp_region (seg_eval (by simp -dsimp -implicitDefEqProofs [spCutP, spTrimP, spNum, spText, p0, m0, hp, t1, t2, en, hw, Int.toNat_natCast]; rfl) ?_)
        | refine wp_drawsS (seg_eval (by simp -dsimp -implicitDefEqProofs [spCutP, spTrimP, spNum, spText, p0, m0, hp, t1, t2, en, hw, Int.toNat_natCast]; rfl) ?_)
        | refine wp_draws (seg_eval (by simp -dsimp -implicitDefEqProofs [spCutP, spTrimP, spNum, spText, p0, m0, hp, t1, t2, en, hw, Int.toNat_natCast]; rfl) ?_)
        | refine seg_fin ?_
        | refine seg_pan ?_
        | refine seg_both ?_ ?_
        | refine seg_case (fun x h => ?_) (fun h => ?_)
        | refine seg_gate (fun h => ?_) (fun h => ?_)
        | refine seg_need ?_ ?_
        | refine wp_assoc ?_ | refine wp_skipS ?_ | refine wp_retS ?_ | refine wp_exitS ?_ | refine wp_dropS (wp_eqT (by simp -dsimp -implicitDefEqProofs; rfl) ?_) | refine wp_sealS (by simp -dsimp -implicitDefEqProofs; rfl) ?_ | refine wp_seal (by simp -dsimp -implicitDefEqProofs; rfl) ?_ | refine wp_pack_out ?_ | refine wp_blockS ?_ | refine wp_skip' ?_ | refine wp_ret' ?_ | refine wp_exit' ?_ | refine wp_drop (wp_eqT (by simp -dsimp -implicitDefEqProofs; rfl) ?_) | refine wp_block' ?_
        | refine wp_condVS (by simp -dsimp -implicitDefEqProofs; rfl) ?_
        | refine wp_condV (by simp -dsimp -implicitDefEqProofs; rfl) ?_
        | refine cond_t ?_ | refine cond_f ?_ | refine cond_v (fun h => ?_) (fun h => ?_)
        | refine post_then ?_ | refine post_thenE ?_ | refine post_thenP ?_ | refine post_blkP ?_ | refine post_thenR ?_ | refine post_blkN ?_ | refine post_blkE ?_ | refine post_blkF rfl ?_ | refine post_blkR ?_
        | refine seg_eval (by simp -dsimp -implicitDefEqProofs [spCutP, spTrimP, spNum, spText, p0, m0, hp, t1, t2, en, hw, Int.toNat_natCast]; rfl) ?_
      all_goals first
        | omega
        | exact post_fin rfl rfl ⟨[], [], rfl, rfl, rfl, rfl⟩
        | trace_state
end Go.Proofs.YtjmgnodeohmboaaDoor.Am
