/-
  ANSWERS THAT THE DOCUMENT FIXES (flush).
-/
import Derived.Test.YtbponegjfccgfaaFO
import Derived.Test.YtbponegjfccgfaaCodeL
namespace Go.Proofs.Ytbponegjfccgfaa.Am
set_option linter.unusedSimpArgs false
set_option linter.unusedVariables false
open Go Go.Proofs
attribute [local irreducible] wpA
attribute [-simp] splice

deriving instance DecidableEq for Mk
def fitsC (s : Nat) (v : List Nat) : Bool := (List.range v.length).all fun k => decide (v.getD k 0 < 1000) && (v.getD k 0 == 0 || hasS s k)
theorem fitsC_ok {s : Nat} {v : List Nat} (h : fitsC s v = true) : FitsV s v := by
  intro k n hk
  have hlt := (List.getElem?_eq_some_iff.1 hk).1
  have := List.all_eq_true.1 h k (List.mem_range.2 hlt)
  rw [List.getD_eq_getElem?_getD, hk] at this
  simp only [Option.getD_some, Bool.and_eq_true, decide_eq_true_eq, Bool.or_eq_true, beq_iff_eq] at this
  exact ⟨this.1, fun h0 => by rcases this.2 with h | h; omega; exact h⟩
def marksC (s : Nat) (l : List Mk) : Bool := (List.range l.length).all fun k => match l[k]? with
  | some m => hasS s m.who.toNat && fitsC s m.past && (k == 0 || match l[k - 1]? with | some p => decide (p.who < m.who) | none => true)
  | none => true
theorem marksC_ok {s : Nat} {l : List Mk} (h : marksC s l = true) : MarksF s l := by
  intro k m hk
  have hlt := (List.getElem?_eq_some_iff.1 hk).1
  have := List.all_eq_true.1 h k (List.mem_range.2 hlt)
  rw [hk] at this
  simp only [Bool.and_eq_true, Bool.or_eq_true, beq_iff_eq] at this
  refine ⟨this.1.1, fitsC_ok this.1.2, fun h0 p hp => ?_⟩
  rcases this.2 with h | h
  · omega
  · rw [hp] at h; exact of_decide_eq_true h
theorem okMk_of {m : Mk} (h : (decide (0 ≤ m.who) && decide (m.who < 256) && m.past.length == 16 && m.past.all fun n => decide (n < 65536)) = true) : okMk m := by
  simp only [Bool.and_eq_true, decide_eq_true_eq, beq_iff_eq, List.all_eq_true] at h
  exact ⟨h.1.1.1, h.1.1.2, h.1.2, h.2⟩

def v11 : List Nat := [1, 1, 0, 0, 0, 0, 0, 0, 0, 0, 0, 0, 0, 0, 0, 0]
def v21 : List Nat := [2, 1, 0, 0, 0, 0, 0, 0, 0, 0, 0, 0, 0, 0, 0, 0]
def v32 : List Nat := [3, 2, 0, 0, 0, 0, 0, 0, 0, 0, 0, 0, 0, 0, 0, 0]
def v33 : List Nat := [3, 3, 0, 0, 0, 0, 0, 0, 0, 0, 0, 0, 0, 0, 0, 0]
theorem r0 : rightB 3 [] = true := right_yes ⟨by decide, marksC_ok (by decide)⟩
theorem r1 : rightB 3 [⟨1, v11⟩] = true := right_yes ⟨by decide, marksC_ok (by decide)⟩
theorem r2 : rightB 3 [⟨0, v21⟩, ⟨1, v11⟩] = true := right_yes ⟨by decide, marksC_ok (by decide)⟩
theorem p0 : putF 3 [] ⟨1, v11⟩ = ([⟨1, v11⟩], 0) := by
  have h : (putF 3 [] ⟨1, v11⟩).2 = 0 := putF_zero.2 ⟨r0, by decide, by decide, fits_yes (fitsC_ok (by decide))⟩
  unfold putF at h ⊢
  simp only [r0, fits_yes (fitsC_ok (show fitsC 3 v11 = true by decide))]
  decide
theorem p1 : putF 3 [⟨1, v11⟩] ⟨0, v21⟩ = ([⟨0, v21⟩, ⟨1, v11⟩], 0) := by
  unfold putF
  simp only [r1, fits_yes (fitsC_ok (show fitsC 3 v21 = true by decide))]
  decide
theorem p2 : (putF 3 [⟨0, v21⟩, ⟨1, v11⟩] ⟨1, zV⟩) = ([⟨0, v21⟩, ⟨1, v11⟩], 9) := by
  unfold putF
  simp only [r2]
  decide
theorem t1 : targetF 3 [⟨1, v11⟩] = (zV, false) := by
  unfold targetF
  rw [if_neg (fun h => absurd h.2 (by decide))]
theorem t2 : targetF 3 [⟨0, v21⟩, ⟨1, v11⟩] = (v32, true) := by
  unfold targetF
  rw [if_pos ⟨r2, by decide⟩]
  rfl
theorem o1 : overF 3 [⟨0, v21⟩, ⟨1, v11⟩] v32 = true := by unfold overF; rw [t2]; rfl
theorem o2 : overF 3 [⟨0, v21⟩, ⟨1, v11⟩] v33 = false := by unfold overF; rw [t2]; rfl
theorem e11 : (zV.set 0 1).set 1 1 = v11 := rfl
theorem e21 : (zV.set 0 2).set 1 1 = v21 := rfl
theorem e32 : (zV.set 0 3).set 1 2 = v32 := rfl
theorem e33 : (zV.set 0 3).set 1 3 = v33 := rfl

open Classical in
theorem putFAt' (s : Int) (l : List Mk) (w : Int) (v : List Nat) : spPutF [.agg [.v (.int .u16 s), .fsl 17 (l.map avMk)], .agg (.v (.int .u8 w) :: vc v)] [] =
    if 0 ≤ s ∧ s < 65536 ∧ l.length ≤ 1000000 ∧ (∀ y ∈ l, okMk y) ∧ okMk ⟨w, v⟩ then some (.ret (.tup [.agg [.v (.int .u16 s), .fsl 17 ((putF s.toNat l ⟨w, v⟩).1.map avMk)], .v (.int .i64 (putF s.toNat l ⟨w, v⟩).2)]), []) else none := putFAt s l w v
theorem zV_drop : zV.drop 16 = [] := by simp [zV]
theorem vlen : v11.length = 16 ∧ v21.length = 16 ∧ v32.length = 16 ∧ v33.length = 16 := by decide

def spAlive : Spec
  | [], [] => some (.ret (.v (.bool true)), [])
  | _, _ => none
set_option maxHeartbeats 16000000 in
theorem alive13_ok : CallOk Try.prog 13 spAlive := by
  refine ok_13 (Env.put_ok [] (Env.put_ok [] (Env.put_ok [] (Env.none_ok _) overF_ok) target_ok) (CallOk.fixD [.agg [.no, .k 17]] putF_ok)) spAlive fun args mem r mem1 h => ?_
  unfold spAlive at h
  split at h
  case h_2 => cases h
  cases h
  have h1 : okMk ⟨1, v11⟩ := okMk_of (by decide)
  have h2 : okMk ⟨0, v21⟩ := okMk_of (by decide)
  have h3 : okMk ⟨1, zV⟩ := okMk_of (by decide)
  have h4 := putFAt' 3 [] 1 v11
  have h5 := putFAt' 3 [⟨1, v11⟩] 0 v21
  have h6 := putFAt 3 [⟨0, v21⟩, ⟨1, v11⟩] 1 zV
  have h6' := putFAt' 3 [⟨0, v21⟩, ⟨1, v11⟩] 1 zV
  have h7 := targetAt 3 [⟨1, v11⟩]
  have h8 := targetAt 3 [⟨0, v21⟩, ⟨1, v11⟩]
  have h9 := overFAt 3 [⟨0, v21⟩, ⟨1, v11⟩] v32
  have h10 := overFAt 3 [⟨0, v21⟩, ⟨1, v11⟩] v33
  have hv2 : okV v32 := ⟨by decide, by decide⟩
  have hv3 : okV v33 := ⟨by decide, by decide⟩
  have k (x : Int) (n : Nat) (h : x = n) : x.toNat = n := by subst h; rfl
  simp only [k 3 3 rfl, p0, p1, p2, t1, t2, o1, o2, List.map_nil, List.map_cons, List.length_nil, List.length_cons, List.forall_mem_cons, h1, h2, h3, hv2, hv3, avMk, cMk, List.not_mem_nil, false_implies, implies_true] at h4 h5 h6 h6' h7 h8 h9 h10
  unfold ac_13
  repeat' first
      | with_reducible refine wp_regionS (seg_eval (by simp -dsimp -implicitDefEqProofs [zV_rest, zV_drop, e11, e21, e32, e33, vlen, h4, h5, h6, h6', h7, h8, h9, h10]; rfl) ?_)
      | with_reducible refine wp_region (seg_eval (by simp -dsimp -implicitDefEqProofs [zV_rest, zV_drop, e11, e21, e32, e33, vlen, h4, h5, h6, h6', h7, h8, h9, h10]; rfl) ?_)
      | with_reducible refine wp_drawsS (seg_eval (by simp -dsimp -implicitDefEqProofs [zV_rest, zV_drop, e11, e21, e32, e33, vlen, h4, h5, h6, h6', h7, h8, h9, h10]; rfl) ?_)
      | with_reducible refine wp_draws (seg_eval (by simp -dsimp -implicitDefEqProofs [zV_rest, zV_drop, e11, e21, e32, e33, vlen, h4, h5, h6, h6', h7, h8, h9, h10]; rfl) ?_)
      | with_reducible refine seg_fin ?_
      | with_reducible refine seg_pan ?_
      | with_reducible refine seg_both ?_ ?_
      | with_reducible refine seg_case (fun x h => ?_) (fun h => ?_)
      | with_reducible refine seg_gate (fun h => ?_) (fun h => ?_)
      | with_reducible refine seg_need ?_ ?_
      | with_reducible refine wp_assoc ?_ | with_reducible refine wp_skipS ?_ | with_reducible refine wp_retS ?_ | with_reducible refine wp_exitS ?_ | with_reducible refine wp_dropS (wp_eqT (by simp -dsimp -implicitDefEqProofs [zV_rest, zV_drop, e11, e21, e32, e33, vlen, h4, h5, h6, h6', h7, h8, h9, h10]; rfl) ?_) | with_reducible refine wp_sealS (by simp -dsimp -implicitDefEqProofs [zV_rest, zV_drop, e11, e21, e32, e33, vlen, h4, h5, h6, h6', h7, h8, h9, h10]; rfl) ?_ | with_reducible refine wp_seal (by simp -dsimp -implicitDefEqProofs [zV_rest, zV_drop, e11, e21, e32, e33, vlen, h4, h5, h6, h6', h7, h8, h9, h10]; rfl) ?_ | with_reducible refine wp_closeS (by simp -dsimp -implicitDefEqProofs [zV_rest, zV_drop, e11, e21, e32, e33, vlen, h4, h5, h6, h6', h7, h8, h9, h10]; rfl) ?_ | with_reducible refine wp_close (by simp -dsimp -implicitDefEqProofs [zV_rest, zV_drop, e11, e21, e32, e33, vlen, h4, h5, h6, h6', h7, h8, h9, h10]; rfl) ?_ | with_reducible refine wp_conc_out ?_ | with_reducible refine wp_open_out ?_ | with_reducible refine wp_pack_out ?_ | with_reducible refine wp_blockS ?_ | with_reducible refine wp_skip' ?_ | with_reducible refine wp_ret' ?_ | with_reducible refine wp_exit' ?_ | with_reducible refine wp_drop (wp_eqT (by simp -dsimp -implicitDefEqProofs [zV_rest, zV_drop, e11, e21, e32, e33, vlen, h4, h5, h6, h6', h7, h8, h9, h10]; rfl) ?_) | with_reducible refine wp_block' ?_
      | with_reducible refine wp_condVS (by simp -dsimp -implicitDefEqProofs [zV_rest, zV_drop, e11, e21, e32, e33, vlen, h4, h5, h6, h6', h7, h8, h9, h10]; rfl) ?_
      | with_reducible refine wp_condV (by simp -dsimp -implicitDefEqProofs [zV_rest, zV_drop, e11, e21, e32, e33, vlen, h4, h5, h6, h6', h7, h8, h9, h10]; rfl) ?_
      | with_reducible refine cond_t ?_ | with_reducible refine cond_f ?_ | with_reducible refine cond_v (fun h => ?_) (fun h => ?_)
      | with_reducible refine post_then ?_ | with_reducible refine post_thenE ?_ | with_reducible refine post_thenP ?_ | with_reducible refine post_blkP ?_ | with_reducible refine post_thenR ?_ | with_reducible refine post_blkN ?_ | with_reducible refine post_blkE ?_ | with_reducible refine post_blkF rfl ?_ | with_reducible refine post_blkR ?_
      | with_reducible refine seg_eval (by simp -dsimp -implicitDefEqProofs [zV_rest, zV_drop, e11, e21, e32, e33, vlen, h4, h5, h6, h6', h7, h8, h9, h10]; rfl) ?_
  all_goals exact post_fin rfl rfl ⟨[], [], rfl, rfl, rfl, rfl⟩
end Go.Proofs.Ytbponegjfccgfaa.Am
