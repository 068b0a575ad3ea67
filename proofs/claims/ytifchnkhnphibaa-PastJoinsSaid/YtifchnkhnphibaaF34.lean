import Derived.Test.YtifchnkhnphibaaF33
import Derived.Test.YtifchnkhnphibaaCodeL
namespace Go.Proofs.Ytifchnkhnphibaa.Am
set_option linter.unusedSimpArgs false
set_option linter.unusedVariables false
open Go Go.Proofs
attribute [local irreducible] wpA
attribute [-simp] splice

theorem bdF_ok (s : ByteArray) : okV (bdF s).past := by
  unfold bdF
  cases h : bdDec s with
  | none => exact ⟨by simp [zeroB], by intro n hn; simp [zeroB] at hn; omega⟩
  | some b => exact (enc_bdDec h).2.1

theorem vc_splice_lit (v : List Nat) (i n : Nat) (h : i < v.length) : splice (vc v) i [.v (.int .u16 (no_index (OfNat.ofNat n) : Int))] = vc (v.set i n) := vc_splice v i n h
theorem bc_put_lit {k : Int} {v : List Nat} {t : ByteArray} (i n : Nat) (h : i < v.length) : splice (bc k v t) (1 + i) [.v (.int .u16 (no_index (OfNat.ofNat n) : Int))] = bc k (v.set i n) t := bc_put i n h
attribute [simp high] vc_splice_lit bc_put_lit

/-! ### What the document fixes -/
def al9 : List Nat := (zV.set 0 2).set 1 1
def alB : Bdy := ⟨1, al9, ⟨#[120]⟩⟩
theorem al9_len : al9.length = 16 := by simp [al9]
theorem al9_ok : okV al9 := by decide
theorem alB_may : mayB alB = true := by decide
theorem alB_enc : bdE alB = 0 ∧ bdF (bdS alB) = alB ∧ bdG (bdS alB) = 0 := by
  have e := bdDec_enc alB_may al9_ok
  have e1 : bdS alB = ⟨(enc (bdL alB)).toArray⟩ := by unfold bdS; rw [if_pos alB_may]
  rw [e1]
  exact ⟨by unfold bdE; rw [if_pos alB_may], (bd_yes e).1, (bd_yes e).2⟩
theorem alB_x : bdG ⟨#[120]⟩ = 4 := (bd_no (bdDec_none (by rfl))).2

set_option maxHeartbeats 4000000 in
theorem alive9_ok : CallOk Try.prog 9 spTrue := by
  refine ok_9 E33_ok spTrue fun args mem r mem1 h => ?_
  unfold spTrue at h
  split at h
  case h_2 => cases h
  cases h
  have e0 : (zV.set 0 2).set 1 1 = al9 := rfl
  have e1 : Bdy.mk 1 al9 ⟨#[120]⟩ = alB := rfl
  have p1 : alB.kind = 1 := rfl
  have p2 : alB.past = al9 := rfl
  have p3 : alB.text = ⟨#[120]⟩ := rfl
  obtain ⟨a1, a2, a3⟩ := alB_enc
  have a4 := alB_x
  have r1 : rightP 1 al9 ⟨#[120]⟩ 0 2 = true := by decide
  have r2 : rightP 1 al9 ⟨#[120]⟩ 1 2 = false := by decide
  have hs : ((⟨#[120]⟩ : ByteArray) == ⟨#[120]⟩) = true := by decide
  have k1 : okV (zV.set 0 1) := by decide
  have k2 : okV ((zV.set 0 0).set 1 5) := by decide
  have l1 : belowV (zV.set 0 1) al9 = true := by decide
  have l2 : joinV ((zV.set 0 0).set 1 5) al9 = (zV.set 0 2).set 1 5 := by decide
  have hx := (bdF_ok ⟨#[120]⟩).1
  unfold ac_9
  repeat' first
      | with_reducible refine wp_regionS (seg_eval (by simp -dsimp -implicitDefEqProofs [e0, e1, p1, p2, p3, a1, a2, a3, a4, r1, r2, hs, k1, k2, l1, l2, al9_len, al9_ok, avB, hx]; rfl) ?_)
      | with_reducible refine wp_region (seg_eval (by simp -dsimp -implicitDefEqProofs [e0, e1, p1, p2, p3, a1, a2, a3, a4, r1, r2, hs, k1, k2, l1, l2, al9_len, al9_ok, avB, hx]; rfl) ?_)
      | with_reducible refine wp_drawsS (seg_eval (by simp -dsimp -implicitDefEqProofs [e0, e1, p1, p2, p3, a1, a2, a3, a4, r1, r2, hs, k1, k2, l1, l2, al9_len, al9_ok, avB, hx]; rfl) ?_)
      | with_reducible refine wp_draws (seg_eval (by simp -dsimp -implicitDefEqProofs [e0, e1, p1, p2, p3, a1, a2, a3, a4, r1, r2, hs, k1, k2, l1, l2, al9_len, al9_ok, avB, hx]; rfl) ?_)
      | with_reducible refine seg_fin ?_
      | with_reducible refine seg_pan ?_
      | with_reducible refine seg_both ?_ ?_
      | with_reducible refine seg_case (fun x h => ?_) (fun h => ?_)
      | with_reducible refine seg_gate (fun h => ?_) (fun h => ?_)
      | with_reducible refine seg_need ?_ ?_
      | with_reducible refine wp_assoc ?_ | with_reducible refine wp_skipS ?_ | with_reducible refine wp_retS ?_ | with_reducible refine wp_exitS ?_ | with_reducible refine wp_dropS (wp_eqT (by simp -dsimp -implicitDefEqProofs [e0, e1, p1, p2, p3, a1, a2, a3, a4, r1, r2, hs, k1, k2, l1, l2, al9_len, al9_ok, avB, hx]; rfl) ?_) | with_reducible refine wp_sealS (by simp -dsimp -implicitDefEqProofs [e0, e1, p1, p2, p3, a1, a2, a3, a4, r1, r2, hs, k1, k2, l1, l2, al9_len, al9_ok, avB, hx]; rfl) ?_ | with_reducible refine wp_seal (by simp -dsimp -implicitDefEqProofs [e0, e1, p1, p2, p3, a1, a2, a3, a4, r1, r2, hs, k1, k2, l1, l2, al9_len, al9_ok, avB, hx]; rfl) ?_ | with_reducible refine wp_blockS ?_ | with_reducible refine wp_skip' ?_ | with_reducible refine wp_ret' ?_ | with_reducible refine wp_exit' ?_ | with_reducible refine wp_drop (wp_eqT (by simp -dsimp -implicitDefEqProofs [e0, e1, p1, p2, p3, a1, a2, a3, a4, r1, r2, hs, k1, k2, l1, l2, al9_len, al9_ok, avB, hx]; rfl) ?_) | with_reducible refine wp_block' ?_
      | with_reducible refine wp_condVS (by simp -dsimp -implicitDefEqProofs [e0, e1, p1, p2, p3, a1, a2, a3, a4, r1, r2, hs, k1, k2, l1, l2, al9_len, al9_ok, avB, hx]; rfl) ?_
      | with_reducible refine wp_condV (by simp -dsimp -implicitDefEqProofs [e0, e1, p1, p2, p3, a1, a2, a3, a4, r1, r2, hs, k1, k2, l1, l2, al9_len, al9_ok, avB, hx]; rfl) ?_
      | with_reducible refine cond_t ?_ | with_reducible refine cond_f ?_ | with_reducible refine cond_v (fun h => ?_) (fun h => ?_)
      | with_reducible refine post_then ?_ | with_reducible refine post_thenE ?_ | with_reducible refine post_thenP ?_ | with_reducible refine post_blkP ?_ | with_reducible refine post_thenR ?_ | with_reducible refine post_blkN ?_ | with_reducible refine post_blkE ?_ | with_reducible refine post_blkF rfl ?_ | with_reducible refine post_blkR ?_
      | with_reducible refine seg_eval (by simp -dsimp -implicitDefEqProofs [e0, e1, p1, p2, p3, a1, a2, a3, a4, r1, r2, hs, k1, k2, l1, l2, al9_len, al9_ok, avB, hx]; rfl) ?_
  all_goals first
    | omega
    | exact post_fin rfl rfl ⟨[], [], rfl, rfl, rfl, rfl⟩
    | trace_state

def E34 : Env := E33.put 9 [] spTrue
theorem E34_ok : EnvOk Try.prog E34 := Env.put_ok _ E33_ok alive9_ok
attribute [simp] E34

/-! ### The laws over vectors -/
def spVecs : Spec
  | [.agg xs, .agg ys], [] => (unVc xs).bind fun a => (unVc ys).bind fun b => if okV a ∧ okV b then some (.ret (.v (.bool true)), []) else none
  | _, _ => none
def spVecs3 : Spec
  | [.agg xs, .agg ys, .agg zs], [] => (unVc xs).bind fun a => (unVc ys).bind fun b => (unVc zs).bind fun c => if okV a ∧ okV b ∧ okV c then some (.ret (.v (.bool true)), []) else none
  | _, _ => none

set_option maxHeartbeats 4000000 in
theorem pastVecs_ok : CallOk Try.prog 3 spVecs := by
  refine ok_3 E34_ok spVecs fun args mem r mem1 h => ?_
  unfold spVecs at h
  split at h
  case h_2 => cases h
  rename_i xs ys
  obtain ⟨a, hxa, h1⟩ := Option.bind_eq_some_iff.1 h
  obtain ⟨b, hyb, h2⟩ := Option.bind_eq_some_iff.1 h1
  clear h h1
  have := unVc_some hxa
  subst this
  have := unVc_some hyb
  subst this
  clear hxa hyb
  obtain ⟨⟨ha, hb⟩, h3⟩ := if_some h2
  clear h2
  cases h3
  have hal := ha.1
  have hbl := hb.1
  have hjl := (okV_join ha hb).1
  unfold ac_3
  repeat' first
      | with_reducible refine wp_regionS (seg_eval (by simp -dsimp -implicitDefEqProofs [hal, hbl, ha, hb, hjl]; rfl) ?_)
      | with_reducible refine wp_region (seg_eval (by simp -dsimp -implicitDefEqProofs [hal, hbl, ha, hb, hjl]; rfl) ?_)
      | with_reducible refine wp_drawsS (seg_eval (by simp -dsimp -implicitDefEqProofs [hal, hbl, ha, hb, hjl]; rfl) ?_)
      | with_reducible refine wp_draws (seg_eval (by simp -dsimp -implicitDefEqProofs [hal, hbl, ha, hb, hjl]; rfl) ?_)
      | with_reducible refine seg_fin ?_
      | with_reducible refine seg_pan ?_
      | with_reducible refine seg_both ?_ ?_
      | with_reducible refine seg_case (fun x h => ?_) (fun h => ?_)
      | with_reducible refine seg_gate (fun h => ?_) (fun h => ?_)
      | with_reducible refine seg_need ?_ ?_
      | with_reducible refine wp_assoc ?_ | with_reducible refine wp_skipS ?_ | with_reducible refine wp_retS ?_ | with_reducible refine wp_exitS ?_ | with_reducible refine wp_dropS (wp_eqT (by simp -dsimp -implicitDefEqProofs [hal, hbl, ha, hb, hjl]; rfl) ?_) | with_reducible refine wp_sealS (by simp -dsimp -implicitDefEqProofs [hal, hbl, ha, hb, hjl]; rfl) ?_ | with_reducible refine wp_seal (by simp -dsimp -implicitDefEqProofs [hal, hbl, ha, hb, hjl]; rfl) ?_ | with_reducible refine wp_blockS ?_ | with_reducible refine wp_skip' ?_ | with_reducible refine wp_ret' ?_ | with_reducible refine wp_exit' ?_ | with_reducible refine wp_drop (wp_eqT (by simp -dsimp -implicitDefEqProofs [hal, hbl, ha, hb, hjl]; rfl) ?_) | with_reducible refine wp_block' ?_
      | with_reducible refine wp_condVS (by simp -dsimp -implicitDefEqProofs [hal, hbl, ha, hb, hjl]; rfl) ?_
      | with_reducible refine wp_condV (by simp -dsimp -implicitDefEqProofs [hal, hbl, ha, hb, hjl]; rfl) ?_
      | with_reducible refine cond_t ?_ | with_reducible refine cond_f ?_ | with_reducible refine cond_v (fun h => ?_) (fun h => ?_)
      | with_reducible refine post_then ?_ | with_reducible refine post_thenE ?_ | with_reducible refine post_thenP ?_ | with_reducible refine post_blkP ?_ | with_reducible refine post_thenR ?_ | with_reducible refine post_blkN ?_ | with_reducible refine post_blkE ?_ | with_reducible refine post_blkF rfl ?_ | with_reducible refine post_blkR ?_
      | with_reducible refine seg_eval (by simp -dsimp -implicitDefEqProofs [hal, hbl, ha, hb, hjl]; rfl) ?_
  all_goals first
    | omega
    | exact post_fin rfl rfl ⟨[], [], rfl, rfl, rfl, rfl⟩
    | trace_state

set_option maxHeartbeats 4000000 in
theorem pastJoins_ok : CallOk Try.prog 6 spVecs3 := by
  refine ok_6 E34_ok spVecs3 fun args mem r mem1 h => ?_
  unfold spVecs3 at h
  split at h
  case h_2 => cases h
  rename_i xs ys zs
  obtain ⟨a, hxa, h1⟩ := Option.bind_eq_some_iff.1 h
  obtain ⟨b, hyb, h2⟩ := Option.bind_eq_some_iff.1 h1
  obtain ⟨c, hzc, h3⟩ := Option.bind_eq_some_iff.1 h2
  clear h h1 h2
  have := unVc_some hxa
  subst this
  have := unVc_some hyb
  subst this
  have := unVc_some hzc
  subst this
  clear hxa hyb hzc
  obtain ⟨⟨ha, hb, hc⟩, h4⟩ := if_some h3
  clear h3
  cases h4
  have hal := ha.1
  have hbl := hb.1
  have hcl := hc.1
  have j1 := okV_join ha hb
  have j2 := okV_join hb hc
  have j3 := okV_join ha j2
  have l1 := j1.1
  have l2 := j2.1
  have l3 := j3.1
  have f1 := below_join (a := a) (b := b) (by omega)
  have f2 := below_left a b
  have f3 := below_right a b
  have f4 := joinV_comm b a
  have f5 := joinV_self a
  have f6 := below_least (a := a) (b := b) (by omega) c (by omega)
  have f7 := joinV_assoc a b c
  unfold ac_6
  cases hq : belowV a c <;> cases hq2 : belowV b c <;> rw [hq, hq2] at f6
  all_goals
    repeat' first
        | with_reducible refine wp_regionS (seg_eval (by simp -dsimp -implicitDefEqProofs [hal, hbl, hcl, ha, hb, hc, j1, j2, j3, l1, l2, l3, f1, f2, f3, f4, f5, f6, f7, hq, hq2]; rfl) ?_)
        | with_reducible refine wp_region (seg_eval (by simp -dsimp -implicitDefEqProofs [hal, hbl, hcl, ha, hb, hc, j1, j2, j3, l1, l2, l3, f1, f2, f3, f4, f5, f6, f7, hq, hq2]; rfl) ?_)
        | with_reducible refine wp_drawsS (seg_eval (by simp -dsimp -implicitDefEqProofs [hal, hbl, hcl, ha, hb, hc, j1, j2, j3, l1, l2, l3, f1, f2, f3, f4, f5, f6, f7, hq, hq2]; rfl) ?_)
        | with_reducible refine wp_draws (seg_eval (by simp -dsimp -implicitDefEqProofs [hal, hbl, hcl, ha, hb, hc, j1, j2, j3, l1, l2, l3, f1, f2, f3, f4, f5, f6, f7, hq, hq2]; rfl) ?_)
        | with_reducible refine seg_fin ?_
        | with_reducible refine seg_pan ?_
        | with_reducible refine seg_both ?_ ?_
        | with_reducible refine seg_case (fun x h => ?_) (fun h => ?_)
        | with_reducible refine seg_gate (fun h => ?_) (fun h => ?_)
        | with_reducible refine seg_need ?_ ?_
        | with_reducible refine wp_assoc ?_ | with_reducible refine wp_skipS ?_ | with_reducible refine wp_retS ?_ | with_reducible refine wp_exitS ?_ | with_reducible refine wp_dropS (wp_eqT (by simp -dsimp -implicitDefEqProofs [hal, hbl, hcl, ha, hb, hc, j1, j2, j3, l1, l2, l3, f1, f2, f3, f4, f5, f6, f7, hq, hq2]; rfl) ?_) | with_reducible refine wp_sealS (by simp -dsimp -implicitDefEqProofs [hal, hbl, hcl, ha, hb, hc, j1, j2, j3, l1, l2, l3, f1, f2, f3, f4, f5, f6, f7, hq, hq2]; rfl) ?_ | with_reducible refine wp_seal (by simp -dsimp -implicitDefEqProofs [hal, hbl, hcl, ha, hb, hc, j1, j2, j3, l1, l2, l3, f1, f2, f3, f4, f5, f6, f7, hq, hq2]; rfl) ?_ | with_reducible refine wp_blockS ?_ | with_reducible refine wp_skip' ?_ | with_reducible refine wp_ret' ?_ | with_reducible refine wp_exit' ?_ | with_reducible refine wp_drop (wp_eqT (by simp -dsimp -implicitDefEqProofs [hal, hbl, hcl, ha, hb, hc, j1, j2, j3, l1, l2, l3, f1, f2, f3, f4, f5, f6, f7, hq, hq2]; rfl) ?_) | with_reducible refine wp_block' ?_
        | with_reducible refine wp_condVS (by simp -dsimp -implicitDefEqProofs [hal, hbl, hcl, ha, hb, hc, j1, j2, j3, l1, l2, l3, f1, f2, f3, f4, f5, f6, f7, hq, hq2]; rfl) ?_
        | with_reducible refine wp_condV (by simp -dsimp -implicitDefEqProofs [hal, hbl, hcl, ha, hb, hc, j1, j2, j3, l1, l2, l3, f1, f2, f3, f4, f5, f6, f7, hq, hq2]; rfl) ?_
        | with_reducible refine cond_t ?_ | with_reducible refine cond_f ?_ | with_reducible refine cond_v (fun h => ?_) (fun h => ?_)
        | with_reducible refine post_then ?_ | with_reducible refine post_thenE ?_ | with_reducible refine post_thenP ?_ | with_reducible refine post_blkP ?_ | with_reducible refine post_thenR ?_ | with_reducible refine post_blkN ?_ | with_reducible refine post_blkE ?_ | with_reducible refine post_blkF rfl ?_ | with_reducible refine post_blkR ?_
        | with_reducible refine seg_eval (by simp -dsimp -implicitDefEqProofs [hal, hbl, hcl, ha, hb, hc, j1, j2, j3, l1, l2, l3, f1, f2, f3, f4, f5, f6, f7, hq, hq2]; rfl) ?_
    all_goals first
      | omega
      | exact post_fin rfl rfl ⟨[], [], rfl, rfl, rfl, rfl⟩
      | trace_state

set_option maxHeartbeats 4000000 in
theorem pastOrder_ok : CallOk Try.prog 8 spVecs3 := by
  refine ok_8 E34_ok spVecs3 fun args mem r mem1 h => ?_
  unfold spVecs3 at h
  split at h
  case h_2 => cases h
  rename_i xs ys zs
  obtain ⟨a, hxa, h1⟩ := Option.bind_eq_some_iff.1 h
  obtain ⟨b, hyb, h2⟩ := Option.bind_eq_some_iff.1 h1
  obtain ⟨c, hzc, h3⟩ := Option.bind_eq_some_iff.1 h2
  clear h h1 h2
  have := unVc_some hxa
  subst this
  have := unVc_some hyb
  subst this
  have := unVc_some hzc
  subst this
  clear hxa hyb hzc
  obtain ⟨⟨ha, hb, hc⟩, h4⟩ := if_some h3
  clear h3
  cases h4
  have hal := ha.1
  have hbl := hb.1
  have hcl := hc.1
  have f1 := below_self a
  have f2 : belowV zV a = true := below_zero 16 a
  have k1 : okV zV := by decide
  unfold ac_8
  cases hq : belowV a b with
  | false =>
    repeat' first
        | with_reducible refine wp_regionS (seg_eval (by simp -dsimp -implicitDefEqProofs [hal, hbl, hcl, ha, hb, hc, f1, f2, k1, hq]; rfl) ?_)
        | with_reducible refine wp_region (seg_eval (by simp -dsimp -implicitDefEqProofs [hal, hbl, hcl, ha, hb, hc, f1, f2, k1, hq]; rfl) ?_)
        | with_reducible refine wp_drawsS (seg_eval (by simp -dsimp -implicitDefEqProofs [hal, hbl, hcl, ha, hb, hc, f1, f2, k1, hq]; rfl) ?_)
        | with_reducible refine wp_draws (seg_eval (by simp -dsimp -implicitDefEqProofs [hal, hbl, hcl, ha, hb, hc, f1, f2, k1, hq]; rfl) ?_)
        | with_reducible refine seg_fin ?_
        | with_reducible refine seg_pan ?_
        | with_reducible refine seg_both ?_ ?_
        | with_reducible refine seg_case (fun x h => ?_) (fun h => ?_)
        | with_reducible refine seg_gate (fun h => ?_) (fun h => ?_)
        | with_reducible refine seg_need ?_ ?_
        | with_reducible refine wp_assoc ?_ | with_reducible refine wp_skipS ?_ | with_reducible refine wp_retS ?_ | with_reducible refine wp_exitS ?_ | with_reducible refine wp_dropS (wp_eqT (by simp -dsimp -implicitDefEqProofs [hal, hbl, hcl, ha, hb, hc, f1, f2, k1, hq]; rfl) ?_) | with_reducible refine wp_sealS (by simp -dsimp -implicitDefEqProofs [hal, hbl, hcl, ha, hb, hc, f1, f2, k1, hq]; rfl) ?_ | with_reducible refine wp_seal (by simp -dsimp -implicitDefEqProofs [hal, hbl, hcl, ha, hb, hc, f1, f2, k1, hq]; rfl) ?_ | with_reducible refine wp_blockS ?_ | with_reducible refine wp_skip' ?_ | with_reducible refine wp_ret' ?_ | with_reducible refine wp_exit' ?_ | with_reducible refine wp_drop (wp_eqT (by simp -dsimp -implicitDefEqProofs [hal, hbl, hcl, ha, hb, hc, f1, f2, k1, hq]; rfl) ?_) | with_reducible refine wp_block' ?_
        | with_reducible refine wp_condVS (by simp -dsimp -implicitDefEqProofs [hal, hbl, hcl, ha, hb, hc, f1, f2, k1, hq]; rfl) ?_
        | with_reducible refine wp_condV (by simp -dsimp -implicitDefEqProofs [hal, hbl, hcl, ha, hb, hc, f1, f2, k1, hq]; rfl) ?_
        | with_reducible refine cond_t ?_ | with_reducible refine cond_f ?_ | with_reducible refine cond_v (fun h => ?_) (fun h => ?_)
        | with_reducible refine post_then ?_ | with_reducible refine post_thenE ?_ | with_reducible refine post_thenP ?_ | with_reducible refine post_blkP ?_ | with_reducible refine post_thenR ?_ | with_reducible refine post_blkN ?_ | with_reducible refine post_blkE ?_ | with_reducible refine post_blkF rfl ?_ | with_reducible refine post_blkR ?_
        | with_reducible refine seg_eval (by simp -dsimp -implicitDefEqProofs [hal, hbl, hcl, ha, hb, hc, f1, f2, k1, hq]; rfl) ?_
    all_goals first
      | omega
      | exact post_fin rfl rfl ⟨[], [], rfl, rfl, rfl, rfl⟩
      | trace_state
  | true =>
    have f3 := below_both (a := a) (b := b) (by omega) hq
    cases hq2 : belowV b c with
    | false =>
      repeat' first
          | with_reducible refine wp_regionS (seg_eval (by simp -dsimp -implicitDefEqProofs [hal, hbl, hcl, ha, hb, hc, f1, f2, f3, k1, hq, hq2]; rfl) ?_)
          | with_reducible refine wp_region (seg_eval (by simp -dsimp -implicitDefEqProofs [hal, hbl, hcl, ha, hb, hc, f1, f2, f3, k1, hq, hq2]; rfl) ?_)
          | with_reducible refine wp_drawsS (seg_eval (by simp -dsimp -implicitDefEqProofs [hal, hbl, hcl, ha, hb, hc, f1, f2, f3, k1, hq, hq2]; rfl) ?_)
          | with_reducible refine wp_draws (seg_eval (by simp -dsimp -implicitDefEqProofs [hal, hbl, hcl, ha, hb, hc, f1, f2, f3, k1, hq, hq2]; rfl) ?_)
          | with_reducible refine seg_fin ?_
          | with_reducible refine seg_pan ?_
          | with_reducible refine seg_both ?_ ?_
          | with_reducible refine seg_case (fun x h => ?_) (fun h => ?_)
          | with_reducible refine seg_gate (fun h => ?_) (fun h => ?_)
          | with_reducible refine seg_need ?_ ?_
          | with_reducible refine wp_assoc ?_ | with_reducible refine wp_skipS ?_ | with_reducible refine wp_retS ?_ | with_reducible refine wp_exitS ?_ | with_reducible refine wp_dropS (wp_eqT (by simp -dsimp -implicitDefEqProofs [hal, hbl, hcl, ha, hb, hc, f1, f2, f3, k1, hq, hq2]; rfl) ?_) | with_reducible refine wp_sealS (by simp -dsimp -implicitDefEqProofs [hal, hbl, hcl, ha, hb, hc, f1, f2, f3, k1, hq, hq2]; rfl) ?_ | with_reducible refine wp_seal (by simp -dsimp -implicitDefEqProofs [hal, hbl, hcl, ha, hb, hc, f1, f2, f3, k1, hq, hq2]; rfl) ?_ | with_reducible refine wp_blockS ?_ | with_reducible refine wp_skip' ?_ | with_reducible refine wp_ret' ?_ | with_reducible refine wp_exit' ?_ | with_reducible refine wp_drop (wp_eqT (by simp -dsimp -implicitDefEqProofs [hal, hbl, hcl, ha, hb, hc, f1, f2, f3, k1, hq, hq2]; rfl) ?_) | with_reducible refine wp_block' ?_
          | with_reducible refine wp_condVS (by simp -dsimp -implicitDefEqProofs [hal, hbl, hcl, ha, hb, hc, f1, f2, f3, k1, hq, hq2]; rfl) ?_
          | with_reducible refine wp_condV (by simp -dsimp -implicitDefEqProofs [hal, hbl, hcl, ha, hb, hc, f1, f2, f3, k1, hq, hq2]; rfl) ?_
          | with_reducible refine cond_t ?_ | with_reducible refine cond_f ?_ | with_reducible refine cond_v (fun h => ?_) (fun h => ?_)
          | with_reducible refine post_then ?_ | with_reducible refine post_thenE ?_ | with_reducible refine post_thenP ?_ | with_reducible refine post_blkP ?_ | with_reducible refine post_thenR ?_ | with_reducible refine post_blkN ?_ | with_reducible refine post_blkE ?_ | with_reducible refine post_blkF rfl ?_ | with_reducible refine post_blkR ?_
          | with_reducible refine seg_eval (by simp -dsimp -implicitDefEqProofs [hal, hbl, hcl, ha, hb, hc, f1, f2, f3, k1, hq, hq2]; rfl) ?_
      all_goals first
        | omega
        | exact post_fin rfl rfl ⟨[], [], rfl, rfl, rfl, rfl⟩
        | trace_state
    | true =>
      have f4 := below_trans (a := a) (b := b) (c := c) (by omega) (by omega) hq hq2
      repeat' first
          | with_reducible refine wp_regionS (seg_eval (by simp -dsimp -implicitDefEqProofs [hal, hbl, hcl, ha, hb, hc, f1, f2, f3, f4, k1, hq, hq2]; rfl) ?_)
          | with_reducible refine wp_region (seg_eval (by simp -dsimp -implicitDefEqProofs [hal, hbl, hcl, ha, hb, hc, f1, f2, f3, f4, k1, hq, hq2]; rfl) ?_)
          | with_reducible refine wp_drawsS (seg_eval (by simp -dsimp -implicitDefEqProofs [hal, hbl, hcl, ha, hb, hc, f1, f2, f3, f4, k1, hq, hq2]; rfl) ?_)
          | with_reducible refine wp_draws (seg_eval (by simp -dsimp -implicitDefEqProofs [hal, hbl, hcl, ha, hb, hc, f1, f2, f3, f4, k1, hq, hq2]; rfl) ?_)
          | with_reducible refine seg_fin ?_
          | with_reducible refine seg_pan ?_
          | with_reducible refine seg_both ?_ ?_
          | with_reducible refine seg_case (fun x h => ?_) (fun h => ?_)
          | with_reducible refine seg_gate (fun h => ?_) (fun h => ?_)
          | with_reducible refine seg_need ?_ ?_
          | with_reducible refine wp_assoc ?_ | with_reducible refine wp_skipS ?_ | with_reducible refine wp_retS ?_ | with_reducible refine wp_exitS ?_ | with_reducible refine wp_dropS (wp_eqT (by simp -dsimp -implicitDefEqProofs [hal, hbl, hcl, ha, hb, hc, f1, f2, f3, f4, k1, hq, hq2]; rfl) ?_) | with_reducible refine wp_sealS (by simp -dsimp -implicitDefEqProofs [hal, hbl, hcl, ha, hb, hc, f1, f2, f3, f4, k1, hq, hq2]; rfl) ?_ | with_reducible refine wp_seal (by simp -dsimp -implicitDefEqProofs [hal, hbl, hcl, ha, hb, hc, f1, f2, f3, f4, k1, hq, hq2]; rfl) ?_ | with_reducible refine wp_blockS ?_ | with_reducible refine wp_skip' ?_ | with_reducible refine wp_ret' ?_ | with_reducible refine wp_exit' ?_ | with_reducible refine wp_drop (wp_eqT (by simp -dsimp -implicitDefEqProofs [hal, hbl, hcl, ha, hb, hc, f1, f2, f3, f4, k1, hq, hq2]; rfl) ?_) | with_reducible refine wp_block' ?_
          | with_reducible refine wp_condVS (by simp -dsimp -implicitDefEqProofs [hal, hbl, hcl, ha, hb, hc, f1, f2, f3, f4, k1, hq, hq2]; rfl) ?_
          | with_reducible refine wp_condV (by simp -dsimp -implicitDefEqProofs [hal, hbl, hcl, ha, hb, hc, f1, f2, f3, f4, k1, hq, hq2]; rfl) ?_
          | with_reducible refine cond_t ?_ | with_reducible refine cond_f ?_ | with_reducible refine cond_v (fun h => ?_) (fun h => ?_)
          | with_reducible refine post_then ?_ | with_reducible refine post_thenE ?_ | with_reducible refine post_thenP ?_ | with_reducible refine post_blkP ?_ | with_reducible refine post_thenR ?_ | with_reducible refine post_blkN ?_ | with_reducible refine post_blkE ?_ | with_reducible refine post_blkF rfl ?_ | with_reducible refine post_blkR ?_
          | with_reducible refine seg_eval (by simp -dsimp -implicitDefEqProofs [hal, hbl, hcl, ha, hb, hc, f1, f2, f3, f4, k1, hq, hq2]; rfl) ?_
      all_goals first
        | omega
        | exact post_fin rfl rfl ⟨[], [], rfl, rfl, rfl, rfl⟩
        | trace_state
end Go.Proofs.Ytifchnkhnphibaa.Am
