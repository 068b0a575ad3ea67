/-
  The law RollBack, as a contract.
-/
import Derived.Test.YtjmgnodeohmboaaDoorR9
import Derived.Test.YtjmgnodeohmboaaDoorR5
import Derived.Test.YtjmgnodeohmboaaDoorCodeB
namespace Go.Proofs.YtjmgnodeohmboaaDoor.Am
set_option linter.unusedSimpArgs false
set_option linter.unusedVariables false
open Go Go.Proofs
attribute [local irreducible] wpA
attribute [-simp] splice

theorem with_without {m i : Nat} (hm : m < 65536) (hi : i < 16) (h : hasS m i = false) : withoutS (withS m i) i = m :=
  set_ext (withoutS_lt _ _) hm fun j _ => by
    rw [has_without (withS_lt hm i), has_with]
    by_cases e : i = j
    · subst e; simp [h]
    · simp [e]
theorem without_with {m i : Nat} (hm : m < 65536) (hi : i < 16) (h : hasS m i = true) : withS (withoutS m i) i = m :=
  set_ext (withS_lt (withoutS_lt _ _) i) hm fun j _ => by
    rw [has_with, has_without hm]
    by_cases e : i = j
    · subst e; simp [h, hi]
    · simp [e]
theorem size_bit : ∀ i : Fin 16, sizeS (bitS i.val) = 1 := by decide +kernel

/-- A change and its opposite. -/
theorem apply_back {v : Int} {m : Nat} {a : Bool} {i : Nat} (hm : m < 65536) (h : (applyV v m a i).2 = 0) :
    (v = 999 ∧ (applyV (applyV v m a i).1.1 (applyV v m a i).1.2 (!a) i).2 ≠ 0) ∨ ((applyV (applyV v m a i).1.1 (applyV v m a i).1.2 (!a) i).2 = 0 ∧ (applyV (applyV v m a i).1.1 (applyV v m a i).1.2 (!a) i).1 = (v + 2, m)) := by
  obtain ⟨g1, g2, g3, g4, g5, g6⟩ := applyV_good h
  obtain ⟨v0, v1, m0⟩ := right_v.1 g1
  rw [g6]
  simp only
  obtain ⟨m', hm'⟩ : ∃ m', m' = (if a = true then withS m i else withoutS m i) := ⟨_, rfl⟩
  rw [← hm']
  have l' : m' < 65536 := hm' ▸ good_lt hm
  have n' : m' ≠ 0 := hm' ▸ good_nz hm g2 g3 g5
  have s' : hasS m' i = a := hm' ▸ good_has hm g2
  have r' : rightV (v + 1) m' = true := right_v.2 ⟨by omega, by omega, n'⟩
  have hni : ¬ (rightV (v + 1) m' = false ∨ 16 ≤ i) := by rw [r']; simp; omega
  have hb : (if (!a) = true then withS m' i else withoutS m' i) = m := by
    cases a
    · rw [hm']; exact without_with hm g2 g3
    · rw [hm']; exact with_without hm g2 g3
  by_cases hv : v = 999
  · refine .inl ⟨hv, ?_⟩
    unfold applyV
    rw [if_neg hni, if_neg (by rw [s']; cases a <;> simp), if_neg (by rw [s']; cases a <;> simp), if_pos (by omega)]
    simp
  · refine .inr ?_
    have hs : ¬ ((!a) = false ∧ sizeS m' = 1) := fun ⟨ha, hz⟩ => by
      have ha' : a = true := by simpa using ha
      subst ha'
      have h0 := (without_zero l' s').2 hz
      rw [if_neg (by simp)] at hb
      omega
    unfold applyV
    rw [if_neg hni, if_neg (by rw [s']; cases a <;> simp), if_neg (by rw [s']; cases a <;> simp), if_neg (by omega), if_neg hs, hb]
    exact ⟨rfl, by rw [show v + 1 + 1 = v + 2 by omega]⟩

/-- What lies between a view of a path and the next one. -/
theorem pathG_step {r : Int × Nat} {l : List (Bool × Int)} (hr : r.2 < 65536) : ∀ (i : Nat) (x y : Int × Nat), (r :: pathG r l)[i]? = some x → (r :: pathG r l)[i + 1]? = some y →
    x.2 < 65536 ∧ y.2 < 65536 ∧ 0 ≤ x.1 ∧ x.1 < 1000 ∧ y.1 = x.1 + 1 ∧ y.2 ≠ 0 ∧ sizeS (y.2 ^^^ x.2) = 1 := by
  induction l generalizing r with
  | nil => intro i x y _ hy; simp [pathG] at hy
  | cons c l ih =>
    intro i x y hx hy
    by_cases hd : (applyV r.1 r.2 c.1 c.2.toNat).2 = 0
    · have e : pathG r (c :: l) = (applyV r.1 r.2 c.1 c.2.toNat).1 :: pathG (applyV r.1 r.2 c.1 c.2.toNat).1 l := by rw [pathG, if_pos hd]
      rw [e] at hx hy
      cases i with
      | zero =>
        simp only [List.getElem?_cons_zero, List.getElem?_cons_succ, Option.some.injEq, Nat.zero_add] at hx hy
        subst hx hy
        obtain ⟨g1, g2, g3, g4, g5, g6⟩ := applyV_good hd
        obtain ⟨v0, v1, m0⟩ := right_v.1 g1
        rw [g6]
        refine ⟨hr, good_lt hr, v0, by omega, rfl, good_nz hr g2 g3 g5, ?_⟩
        simp only
        rw [good_xor hr g2 g3]
        exact size_bit ⟨_, g2⟩
      | succ i =>
        simp only [List.getElem?_cons_succ] at hx hy
        exact ih (applyV_lt hr) i x y (by simpa using hx) (by simpa using hy)
    · have e : pathG r (c :: l) = [] := by rw [pathG, if_neg hd]
      rw [e] at hy
      simp at hy

set_option maxHeartbeats 16000000 in
theorem rollBack_ok : CallOk Tryd.prog 7 spLawP := by
  refine okq_7 (Env.put_ok [] (Env.put_ok [] (Env.put_ok [] (Env.put_ok [] (Env.put_ok [] (Env.put_ok [] (Env.none_ok _) alive_ok) changes_ok) path_ok) rollRight_ok) apply_ok) sizeR_ok) spLawP (wb_spc ?_)
  rintro ⟨⟨v, m⟩, l⟩ ⟨hm, hok, hmx⟩
  simp only [avRo] at hm hok hmx ⊢
  have hm2 : (m : Int) < 65536 := by omega
  unfold acq_7
  by_cases hl : l.length ≤ 100
  · have c1 : decide ((100 : Int) < (l.length : Int)) = false := by rw [decide_eq_false_iff_not]; omega
    have c2 : decide (100 < l.length) = false := by simp; omega
    by_cases hl0 : l.length = 0
    · have hln : l = [] := List.eq_nil_of_length_eq_zero hl0
      subst hln
      repeat' with_reducible first
        | refine wp_regionS (seg_eval (by simp -dsimp -implicitDefEqProofs [spYes, c1, c2]; rfl) ?_)
        | refine wp_region (seg_eval (by simp -dsimp -implicitDefEqProofs [spYes, c1, c2]; rfl) ?_)
        | refine wp_drawsS (seg_eval (by simp -dsimp -implicitDefEqProofs [spYes, c1, c2]; rfl) ?_)
        | refine wp_draws (seg_eval (by simp -dsimp -implicitDefEqProofs [spYes, c1, c2]; rfl) ?_)
        | refine seg_fin ?_
        | refine seg_pan ?_
        | refine seg_both ?_ ?_
        | refine seg_case (fun x h => ?_) (fun h => ?_)
        | refine seg_gate (fun h => ?_) (fun h => ?_)
        | refine seg_need ?_ ?_
        | refine wp_assoc ?_ | refine wp_skipS ?_ | refine wp_retS ?_ | refine wp_exitS ?_ | refine wp_dropS (wp_eqT (by simp -dsimp -implicitDefEqProofs; rfl) ?_) | refine wp_sealS (by simp -dsimp -implicitDefEqProofs; rfl) ?_ | refine wp_seal (by simp -dsimp -implicitDefEqProofs; rfl) ?_ | refine wp_pack_out ?_ | refine wp_blockS ?_ | refine wp_skip' ?_ | refine wp_ret' ?_ | refine wp_exit' ?_ | refine wp_drop (wp_eqT (by simp -dsimp -implicitDefEqProofs; rfl) ?_) | refine wp_block' ?_
        | refine wp_condVS (by simp -dsimp -implicitDefEqProofs; rfl) ?_
        | refine wp_condV (by simp -dsimp -implicitDefEqProofs; rfl) ?_
        | refine cond_t ?_ | refine cond_f ?_ | refine cond_v (fun h => ?_) (fun h => ?_)
        | refine post_then ?_ | refine post_thenE ?_ | refine post_thenP ?_ | refine post_blkP ?_ | refine post_thenR ?_ | refine post_blkN ?_ | refine post_blkE ?_ | refine post_blkF rfl ?_ | refine post_blkR ?_
        | refine seg_eval (by simp -dsimp -implicitDefEqProofs [spYes, c1, c2]; rfl) ?_
      all_goals first
        | omega
        | exact post_fin rfl rfl ⟨[], [], rfl, rfl, rfl, rfl⟩
        | trace_state
    · have c3 : (l.length == 0) = false := by rw [beq_eq_false_iff_ne]; omega
      have c4 : ((l.length : Int) == 0) = false := by rw [beq_eq_false_iff_ne]; omega
      have hl1 : l.length ≤ 1000000 := by omega
      have hl2 : l.length ≤ 1000 := by omega
      have hlp : 0 < l.length := by omega
      obtain ⟨⟨a, d⟩, hx⟩ : ∃ y, l[0]? = some y := ⟨_, List.getElem?_eq_getElem (by omega)⟩
      obtain ⟨q0, q1⟩ := hok _ (List.mem_of_getElem? hx)
      simp only at q0 q1
      obtain ⟨d, rfl⟩ := Int.eq_ofNat_of_zero_le q0
      have hg : l[0]'hlp = (a, (d : Int)) := (List.getElem?_eq_some_iff.1 hx).2
      obtain ⟨⟨⟨nv, nm⟩, ne⟩, hn⟩ : ∃ n, n = applyV v m a d := ⟨_, rfl⟩
      have hnm : nm < 65536 := by have := applyV_lt (v := v) (a := a) (i := d) hm; rw [← hn] at this; exact this
      have hnm2 : (nm : Int) < 65536 := by omega
      have back := apply_back (v := v) (m := m) (a := a) (i := d) hm
      rw [← hn] at back
      simp only at back
      repeat' with_reducible first
        | refine wp_regionS (seg_eval (by simp -dsimp -implicitDefEqProofs [spYes, c1, c2, c3, c4]; rfl) ?_)
        | refine wp_region (seg_eval (by simp -dsimp -implicitDefEqProofs [spYes, c1, c2, c3, c4]; rfl) ?_)
        | refine seg_fin ?_
        | refine seg_pan ?_
        | refine seg_both ?_ ?_
        | refine seg_case (fun x h => ?_) (fun h => ?_)
        | refine seg_gate (fun h => ?_) (fun h => ?_)
        | refine seg_need ?_ ?_
        | refine wp_assoc ?_ | refine wp_skipS ?_ | refine wp_retS ?_ | refine wp_exitS ?_ | refine wp_dropS (wp_eqT (by simp -dsimp -implicitDefEqProofs; rfl) ?_) | refine wp_sealS (by simp -dsimp -implicitDefEqProofs; rfl) ?_ | refine wp_seal (by simp -dsimp -implicitDefEqProofs; rfl) ?_ | refine wp_pack_out ?_ | refine wp_blockS ?_ | refine wp_skip' ?_ | refine wp_ret' ?_ | refine wp_exit' ?_ | refine wp_drop (wp_eqT (by simp -dsimp -implicitDefEqProofs; rfl) ?_) | refine wp_block' ?_
        | refine wp_condVS (by simp -dsimp -implicitDefEqProofs; rfl) ?_
        | refine wp_condV (by simp -dsimp -implicitDefEqProofs; rfl) ?_
        | refine cond_t ?_ | refine cond_f ?_ | refine cond_v (fun h => ?_) (fun h => ?_)
        | refine post_then ?_ | refine post_thenE ?_ | refine post_thenP ?_ | refine post_blkP ?_ | refine post_thenR ?_ | refine post_blkN ?_ | refine post_blkE ?_ | refine post_blkF rfl ?_ | refine post_blkR ?_
        | refine seg_eval (by simp -dsimp -implicitDefEqProofs [spYes, c1, c2, c3, c4]; rfl) ?_
      refine wp_drawsR (fun ts mm => ts = [(1, .fsl 2 (l.map avCh)), (2, .fptr (.agg [.v (.int .i64 v), .v (.int .u16 (m : Nat))]) 0), (5, .ptr 0 0 0), (6, .v (.int .i64 ne))] ∧ mm = [.var [.v (.int .i64 nv), .v (.int .u16 (nm : Nat))]]) ?_ ?_
      · intro W hW
        repeat' with_reducible first
          | refine wp_regionS (seg_eval (by simp -dsimp -implicitDefEqProofs [avCh, spApplyV, hm2, hg, q1, hlp, ← hn, Int.toNat_natCast]; rfl) ?_)
          | refine wp_region (seg_eval (by simp -dsimp -implicitDefEqProofs [avCh, spApplyV, hm2, hg, q1, hlp, ← hn, Int.toNat_natCast]; rfl) ?_)
          | refine wp_drawsS (seg_eval (by simp -dsimp -implicitDefEqProofs [avCh, spApplyV, hm2, hg, q1, hlp, ← hn, Int.toNat_natCast]; rfl) ?_)
          | refine wp_draws (seg_eval (by simp -dsimp -implicitDefEqProofs [avCh, spApplyV, hm2, hg, q1, hlp, ← hn, Int.toNat_natCast]; rfl) ?_)
          | refine seg_fin ?_
          | refine seg_pan ?_
          | refine seg_both ?_ ?_
          | refine seg_case (fun x h => ?_) (fun h => ?_)
          | refine seg_gate (fun h => ?_) (fun h => ?_)
          | refine seg_need ?_ ?_
          | refine wp_assoc ?_ | refine wp_skipS ?_ | refine wp_retS ?_ | refine wp_exitS ?_ | refine wp_dropS (wp_eqT (by simp -dsimp -implicitDefEqProofs; rfl) ?_) | refine wp_sealS (by simp -dsimp -implicitDefEqProofs; rfl) ?_ | refine wp_seal (by simp -dsimp -implicitDefEqProofs; rfl) ?_ | refine wp_pack_out ?_ | refine wp_blockS ?_ | refine wp_skip' ?_ | refine wp_ret' ?_ | refine wp_exit' ?_ | refine wp_drop (wp_eqT (by simp -dsimp -implicitDefEqProofs; rfl) ?_) | refine wp_block' ?_
          | refine wp_condVS (by simp -dsimp -implicitDefEqProofs; rfl) ?_
          | refine wp_condV (by simp -dsimp -implicitDefEqProofs; rfl) ?_
          | refine cond_t ?_ | refine cond_f ?_ | refine cond_v (fun h => ?_) (fun h => ?_)
          | refine post_then ?_ | refine post_thenE ?_ | refine post_thenP ?_ | refine post_blkP ?_ | refine post_thenR ?_ | refine post_blkN ?_ | refine post_blkE ?_ | refine post_blkF rfl ?_ | refine post_blkR ?_
          | refine seg_eval (by simp -dsimp -implicitDefEqProofs [avCh, spApplyV, hm2, hg, q1, hlp, ← hn, Int.toNat_natCast]; rfl) ?_
        all_goals first
          | omega
          | exact hW _ _ ⟨[], [1], rfl, rfl, by simp, by simp⟩
          | trace_state
      · rintro ts mm ⟨rfl, rfl⟩
        refine wp_thenDrawsR (fun ts mm => ts = [(1, .fsl 2 (l.map avCh)), (2, .fptr (.agg [.v (.int .i64 v), .v (.int .u16 (m : Nat))]) 0), (9, .fsl 2 ((pathV (v, m) l).map avRo))] ∧ mm = []) ?_ ?_
        · intro W hW
          by_cases hne : ne = 0
          · have e1 : (ne == 0) = true := by simp [hne]
            obtain ⟨⟨⟨bv, bm⟩, bf⟩, hb⟩ : ∃ n, n = applyV nv nm (!a) d := ⟨_, rfl⟩
            have hbm : bm < 65536 := by have := applyV_lt (v := nv) (a := !a) (i := d) hnm; rw [← hb] at this; exact this
            have back1 := back hne
            rw [← hb] at back1
            simp only at back1
            repeat' with_reducible first
              | refine wp_regionS (seg_eval (by simp -dsimp -implicitDefEqProofs [e1]; rfl) ?_)
              | refine wp_region (seg_eval (by simp -dsimp -implicitDefEqProofs [e1]; rfl) ?_)
              | refine seg_fin ?_
              | refine seg_pan ?_
              | refine seg_both ?_ ?_
              | refine seg_case (fun x h => ?_) (fun h => ?_)
              | refine seg_gate (fun h => ?_) (fun h => ?_)
              | refine seg_need ?_ ?_
              | refine wp_assoc ?_ | refine wp_skipS ?_ | refine wp_retS ?_ | refine wp_exitS ?_ | refine wp_dropS (wp_eqT (by simp -dsimp -implicitDefEqProofs; rfl) ?_) | refine wp_sealS (by simp -dsimp -implicitDefEqProofs; rfl) ?_ | refine wp_seal (by simp -dsimp -implicitDefEqProofs; rfl) ?_ | refine wp_pack_out ?_ | refine wp_blockS ?_ | refine wp_skip' ?_ | refine wp_ret' ?_ | refine wp_exit' ?_ | refine wp_drop (wp_eqT (by simp -dsimp -implicitDefEqProofs; rfl) ?_) | refine wp_block' ?_
              | refine wp_condVS (by simp -dsimp -implicitDefEqProofs; rfl) ?_
              | refine wp_condV (by simp -dsimp -implicitDefEqProofs; rfl) ?_
              | refine cond_t ?_ | refine cond_f ?_ | refine cond_v (fun h => ?_) (fun h => ?_)
              | refine post_then ?_ | refine post_thenE ?_ | refine post_thenP ?_ | refine post_blkP ?_ | refine post_thenR ?_ | refine post_blkN ?_ | refine post_blkE ?_ | refine post_blkF rfl ?_ | refine post_blkR ?_
              | refine seg_eval (by simp -dsimp -implicitDefEqProofs [e1]; rfl) ?_
            refine wp_drawsRS (fun ts mm => ts = [(1, .fsl 2 (l.map avCh)), (2, .fptr (.agg [.v (.int .i64 v), .v (.int .u16 (m : Nat))]) 0), (7, .ptr 0 0 0), (8, .v (.int .i64 bf))] ∧ mm = [.var [.v (.int .i64 bv), .v (.int .u16 (bm : Nat))]]) ?_ ?_
            · intro V hV
              repeat' with_reducible first
                | refine wp_regionS (seg_eval (by simp -dsimp -implicitDefEqProofs [avCh, spApplyV, hnm2, hg, q1, hlp, ← hb, Int.toNat_natCast]; rfl) ?_)
                | refine wp_region (seg_eval (by simp -dsimp -implicitDefEqProofs [avCh, spApplyV, hnm2, hg, q1, hlp, ← hb, Int.toNat_natCast]; rfl) ?_)
                | refine wp_drawsS (seg_eval (by simp -dsimp -implicitDefEqProofs [avCh, spApplyV, hnm2, hg, q1, hlp, ← hb, Int.toNat_natCast]; rfl) ?_)
                | refine wp_draws (seg_eval (by simp -dsimp -implicitDefEqProofs [avCh, spApplyV, hnm2, hg, q1, hlp, ← hb, Int.toNat_natCast]; rfl) ?_)
                | refine seg_fin ?_
                | refine seg_pan ?_
                | refine seg_both ?_ ?_
                | refine seg_case (fun x h => ?_) (fun h => ?_)
                | refine seg_gate (fun h => ?_) (fun h => ?_)
                | refine seg_need ?_ ?_
                | refine wp_assoc ?_ | refine wp_skipS ?_ | refine wp_retS ?_ | refine wp_exitS ?_ | refine wp_dropS (wp_eqT (by simp -dsimp -implicitDefEqProofs; rfl) ?_) | refine wp_sealS (by simp -dsimp -implicitDefEqProofs; rfl) ?_ | refine wp_seal (by simp -dsimp -implicitDefEqProofs; rfl) ?_ | refine wp_pack_out ?_ | refine wp_blockS ?_ | refine wp_skip' ?_ | refine wp_ret' ?_ | refine wp_exit' ?_ | refine wp_drop (wp_eqT (by simp -dsimp -implicitDefEqProofs; rfl) ?_) | refine wp_block' ?_
                | refine wp_condVS (by simp -dsimp -implicitDefEqProofs; rfl) ?_
                | refine wp_condV (by simp -dsimp -implicitDefEqProofs; rfl) ?_
                | refine cond_t ?_ | refine cond_f ?_ | refine cond_v (fun h => ?_) (fun h => ?_)
                | refine post_then ?_ | refine post_thenE ?_ | refine post_thenP ?_ | refine post_blkP ?_ | refine post_thenR ?_ | refine post_blkN ?_ | refine post_blkE ?_ | refine post_blkF rfl ?_ | refine post_blkR ?_
                | refine seg_eval (by simp -dsimp -implicitDefEqProofs [avCh, spApplyV, hnm2, hg, q1, hlp, ← hb, Int.toNat_natCast]; rfl) ?_
              all_goals first
                | omega
                | exact hV _ _ ⟨[], [1], rfl, rfl, by simp, by simp⟩
                | trace_state
            · rintro ts mm ⟨rfl, rfl⟩
              rcases back1 with ⟨hv, hf⟩ | ⟨hf, hp⟩
              · have f1 : (bf == 0) = false := by simp [hf]
                have f2 : (bf != 0) = true := by simp [hf]
                have f3 : decide (v < 999) = false := by simp [hv]
                repeat' with_reducible first
                  | refine wp_regionS (seg_eval (by simp -dsimp -implicitDefEqProofs [f1, f2, f3, changesAt, pathAt, hm, hl1, hl2]; rfl) ?_)
                  | refine wp_region (seg_eval (by simp -dsimp -implicitDefEqProofs [f1, f2, f3, changesAt, pathAt, hm, hl1, hl2]; rfl) ?_)
                  | refine wp_drawsS (seg_eval (by simp -dsimp -implicitDefEqProofs [f1, f2, f3, changesAt, pathAt, hm, hl1, hl2]; rfl) ?_)
                  | refine wp_draws (seg_eval (by simp -dsimp -implicitDefEqProofs [f1, f2, f3, changesAt, pathAt, hm, hl1, hl2]; rfl) ?_)
                  | refine seg_fin ?_
                  | refine seg_pan ?_
                  | refine seg_both ?_ ?_
                  | refine seg_case (fun x h => ?_) (fun h => ?_)
                  | refine seg_gate (fun h => ?_) (fun h => ?_)
                  | refine seg_need ?_ ?_
                  | refine wp_assoc ?_ | refine wp_skipS ?_ | refine wp_retS ?_ | refine wp_exitS ?_ | refine wp_dropS (wp_eqT (by simp -dsimp -implicitDefEqProofs; rfl) ?_) | refine wp_sealS (by simp -dsimp -implicitDefEqProofs; rfl) ?_ | refine wp_seal (by simp -dsimp -implicitDefEqProofs; rfl) ?_ | refine wp_pack_out ?_ | refine wp_blockS ?_ | refine wp_skip' ?_ | refine wp_ret' ?_ | refine wp_exit' ?_ | refine wp_drop (wp_eqT (by simp -dsimp -implicitDefEqProofs; rfl) ?_) | refine wp_block' ?_
                  | refine wp_condVS (by simp -dsimp -implicitDefEqProofs; rfl) ?_
                  | refine wp_condV (by simp -dsimp -implicitDefEqProofs; rfl) ?_
                  | refine cond_t ?_ | refine cond_f ?_ | refine cond_v (fun h => ?_) (fun h => ?_)
                  | refine post_then ?_ | refine post_thenE ?_ | refine post_thenP ?_ | refine post_blkP ?_ | refine post_thenR ?_ | refine post_blkN ?_ | refine post_blkE ?_ | refine post_blkF rfl ?_ | refine post_blkR ?_
                  | refine seg_eval (by simp -dsimp -implicitDefEqProofs [f1, f2, f3, changesAt, pathAt, hm, hl1, hl2]; rfl) ?_
                all_goals first
                  | omega
                  | exact ⟨fun b h => hok _ h, fun b h => hok _ h⟩
                  | exact hW _ _ ⟨[], [], rfl, rfl, by simp, by simp⟩
                  | trace_state
              · have f1 : (bf == 0) = true := by simp [hf]
                have f2 : (bf != 0) = false := by simp [hf]
                have hp1 : bv = v + 2 := by have := congrArg Prod.fst hp; exact this
                have hp2 : bm = m := by have := congrArg Prod.snd hp; exact this
                subst hp2
                have f4 : ((bm : Int) != (bm : Int)) = false := by simp
                have f5 : (bv != IntKind.wrap .i64 (v + 2)) = false := by
                  obtain ⟨g1, -⟩ := applyV_good (v := v) (m := bm) (a := a) (i := d) (by rw [← hn]; exact hne)
                  obtain ⟨v0, v1, -⟩ := right_v.1 g1
                  rw [IntWalk.i64_in _ (by omega), hp1]; simp
                repeat' with_reducible first
                  | refine wp_regionS (seg_eval (by simp -dsimp -implicitDefEqProofs [f1, f2, f4, f5, changesAt, pathAt, hm, hl1, hl2]; rfl) ?_)
                  | refine wp_region (seg_eval (by simp -dsimp -implicitDefEqProofs [f1, f2, f4, f5, changesAt, pathAt, hm, hl1, hl2]; rfl) ?_)
                  | refine wp_drawsS (seg_eval (by simp -dsimp -implicitDefEqProofs [f1, f2, f4, f5, changesAt, pathAt, hm, hl1, hl2]; rfl) ?_)
                  | refine wp_draws (seg_eval (by simp -dsimp -implicitDefEqProofs [f1, f2, f4, f5, changesAt, pathAt, hm, hl1, hl2]; rfl) ?_)
                  | refine seg_fin ?_
                  | refine seg_pan ?_
                  | refine seg_both ?_ ?_
                  | refine seg_case (fun x h => ?_) (fun h => ?_)
                  | refine seg_gate (fun h => ?_) (fun h => ?_)
                  | refine seg_need ?_ ?_
                  | refine wp_assoc ?_ | refine wp_skipS ?_ | refine wp_retS ?_ | refine wp_exitS ?_ | refine wp_dropS (wp_eqT (by simp -dsimp -implicitDefEqProofs; rfl) ?_) | refine wp_sealS (by simp -dsimp -implicitDefEqProofs; rfl) ?_ | refine wp_seal (by simp -dsimp -implicitDefEqProofs; rfl) ?_ | refine wp_pack_out ?_ | refine wp_blockS ?_ | refine wp_skip' ?_ | refine wp_ret' ?_ | refine wp_exit' ?_ | refine wp_drop (wp_eqT (by simp -dsimp -implicitDefEqProofs; rfl) ?_) | refine wp_block' ?_
                  | refine wp_condVS (by simp -dsimp -implicitDefEqProofs; rfl) ?_
                  | refine wp_condV (by simp -dsimp -implicitDefEqProofs; rfl) ?_
                  | refine cond_t ?_ | refine cond_f ?_ | refine cond_v (fun h => ?_) (fun h => ?_)
                  | refine post_then ?_ | refine post_thenE ?_ | refine post_thenP ?_ | refine post_blkP ?_ | refine post_thenR ?_ | refine post_blkN ?_ | refine post_blkE ?_ | refine post_blkF rfl ?_ | refine post_blkR ?_
                  | refine seg_eval (by simp -dsimp -implicitDefEqProofs [f1, f2, f4, f5, changesAt, pathAt, hm, hl1, hl2]; rfl) ?_
                all_goals first
                  | omega
                  | exact ⟨fun b h => hok _ h, fun b h => hok _ h⟩
                  | exact hW _ _ ⟨[], [], rfl, rfl, by simp, by simp⟩
                  | trace_state
          · have e1 : (ne == 0) = false := by simp [hne]
            repeat' with_reducible first
              | refine wp_regionS (seg_eval (by simp -dsimp -implicitDefEqProofs [e1, changesAt, pathAt, hm, hl1, hl2]; rfl) ?_)
              | refine wp_region (seg_eval (by simp -dsimp -implicitDefEqProofs [e1, changesAt, pathAt, hm, hl1, hl2]; rfl) ?_)
              | refine wp_drawsS (seg_eval (by simp -dsimp -implicitDefEqProofs [e1, changesAt, pathAt, hm, hl1, hl2]; rfl) ?_)
              | refine wp_draws (seg_eval (by simp -dsimp -implicitDefEqProofs [e1, changesAt, pathAt, hm, hl1, hl2]; rfl) ?_)
              | refine seg_fin ?_
              | refine seg_pan ?_
              | refine seg_both ?_ ?_
              | refine seg_case (fun x h => ?_) (fun h => ?_)
              | refine seg_gate (fun h => ?_) (fun h => ?_)
              | refine seg_need ?_ ?_
              | refine wp_assoc ?_ | refine wp_skipS ?_ | refine wp_retS ?_ | refine wp_exitS ?_ | refine wp_dropS (wp_eqT (by simp -dsimp -implicitDefEqProofs; rfl) ?_) | refine wp_sealS (by simp -dsimp -implicitDefEqProofs; rfl) ?_ | refine wp_seal (by simp -dsimp -implicitDefEqProofs; rfl) ?_ | refine wp_pack_out ?_ | refine wp_blockS ?_ | refine wp_skip' ?_ | refine wp_ret' ?_ | refine wp_exit' ?_ | refine wp_drop (wp_eqT (by simp -dsimp -implicitDefEqProofs; rfl) ?_) | refine wp_block' ?_
              | refine wp_condVS (by simp -dsimp -implicitDefEqProofs; rfl) ?_
              | refine wp_condV (by simp -dsimp -implicitDefEqProofs; rfl) ?_
              | refine cond_t ?_ | refine cond_f ?_ | refine cond_v (fun h => ?_) (fun h => ?_)
              | refine post_then ?_ | refine post_thenE ?_ | refine post_thenP ?_ | refine post_blkP ?_ | refine post_thenR ?_ | refine post_blkN ?_ | refine post_blkE ?_ | refine post_blkF rfl ?_ | refine post_blkR ?_
              | refine seg_eval (by simp -dsimp -implicitDefEqProofs [e1, changesAt, pathAt, hm, hl1, hl2]; rfl) ?_
            all_goals first
              | omega
              | exact ⟨fun b h => hok _ h, fun b h => hok _ h⟩
              | exact hW _ _ ⟨[], [], rfl, rfl, by simp, by simp⟩
              | trace_state
        · rintro ts mm ⟨rfl, rfl⟩
          have hPl := pathV_len (v, m) l
          have hstep : ∀ (i : Nat) (x y : Int × Nat), (pathV (v, m) l)[i]? = some x → (pathV (v, m) l)[i + 1]? = some y → x.2 < 65536 ∧ y.2 < 65536 ∧ 0 ≤ x.1 ∧ x.1 < 1000 ∧ y.1 = x.1 + 1 ∧ y.2 ≠ 0 ∧ sizeS (y.2 ^^^ x.2) = 1 := by
            unfold pathV
            split
            · exact pathG_step (r := (v, m)) hm
            · intro i x y h; simp at h
          have hzero : ((pathV (v, m) l).length = 0) ↔ rightV v m = false := by
            unfold pathV
            split
            · rename_i h; simp; exact h
            · rename_i h; simp at h; simp [h]
          obtain ⟨A, hAe⟩ : ∃ A, A = pathV (v, m) l := ⟨_, rfl⟩
          rw [← hAe] at hPl hstep hzero ⊢
          repeat' with_reducible first
            | refine wp_regionS (seg_eval (by simp -dsimp -implicitDefEqProofs; rfl) ?_)
            | refine wp_region (seg_eval (by simp -dsimp -implicitDefEqProofs; rfl) ?_)
            | refine seg_fin ?_
            | refine seg_pan ?_
            | refine seg_both ?_ ?_
            | refine seg_case (fun x h => ?_) (fun h => ?_)
            | refine seg_gate (fun h => ?_) (fun h => ?_)
            | refine seg_need ?_ ?_
            | refine wp_assoc ?_ | refine wp_skipS ?_ | refine wp_retS ?_ | refine wp_exitS ?_ | refine wp_dropS (wp_eqT (by simp -dsimp -implicitDefEqProofs; rfl) ?_) | refine wp_sealS (by simp -dsimp -implicitDefEqProofs; rfl) ?_ | refine wp_seal (by simp -dsimp -implicitDefEqProofs; rfl) ?_ | refine wp_pack_out ?_ | refine wp_blockS ?_ | refine wp_skip' ?_ | refine wp_ret' ?_ | refine wp_exit' ?_ | refine wp_drop (wp_eqT (by simp -dsimp -implicitDefEqProofs; rfl) ?_) | refine wp_block' ?_
            | refine wp_condVS (by simp -dsimp -implicitDefEqProofs; rfl) ?_
            | refine wp_condV (by simp -dsimp -implicitDefEqProofs; rfl) ?_
            | refine cond_t ?_ | refine cond_f ?_ | refine cond_v (fun h => ?_) (fun h => ?_)
            | refine post_then ?_ | refine post_thenE ?_ | refine post_thenP ?_ | refine post_blkP ?_ | refine post_thenR ?_ | refine post_blkN ?_ | refine post_blkE ?_ | refine post_blkF rfl ?_ | refine post_blkR ?_
            | refine seg_eval (by simp -dsimp -implicitDefEqProofs; rfl) ?_
          refine wp_loopR (fun ts mm => ts = [(1, .fsl 2 (l.map avCh)), (2, .fptr (.agg [.v (.int .i64 v), .v (.int .u16 (m : Nat))]) 0), (9, .fsl 2 (A.map avRo))] ∧ mm = []) (fun j ts mm => ∃ k : Nat, k + j = A.length ∧
            ts = [(1, .fsl 2 (l.map avCh)), (2, .fptr (.agg [.v (.int .i64 v), .v (.int .u16 (m : Nat))]) 0), (9, .fsl 2 (A.map avRo)), (10, .v (.int .i64 ((k : Int) + 1)))] ∧ mm = []) A.length ?_ ?_ ?_
          · exact ⟨[], [], by simp, by simp, 0, by omega, by simp, by simp⟩
          · rintro W hW j ts mm ⟨k, hk, rfl, rfl⟩
            by_cases hlt : k + 1 < A.length
            · obtain ⟨⟨x1, x2⟩, hx'⟩ : ∃ x, A[k]? = some x := ⟨_, List.getElem?_eq_getElem (by omega)⟩
              obtain ⟨⟨y1, y2⟩, hy'⟩ : ∃ x, A[k + 1]? = some x := ⟨_, List.getElem?_eq_getElem (by omega)⟩
              obtain ⟨s1, s2, s3, s4, s5, s6, s7⟩ := hstep k _ _ hx' hy'
              simp only at s1 s2 s3 s4 s5 s6 s7
              have hd : decide ((k : Int) + 1 < (A.length : Int)) = true := by rw [decide_eq_true_eq]; omega
              have hd2 : decide (k + 1 < A.length) = true := by simp [hlt]
              have hd3 : decide (k < A.length) = true := by simp; omega
              have h64 : IntKind.wrap .i64 ((k : Int) + 1 + 1) = (k : Int) + 1 + 1 := IntWalk.i64_in _ (by omega)
              have h641 : IntKind.wrap .i64 (k : Int) = (k : Int) := IntWalk.i64_in _ (by omega)
              have h5 : (y1 != IntKind.wrap .i64 (x1 + 1)) = false := by rw [IntWalk.i64_in _ (by omega), s5]; simp
              have h6 := xor_nat y2 x2 s2 s1
              have h7 : y2 ^^^ x2 < 65536 := Nat.xor_lt_two_pow (n := 16) s2 s1
              have h71 : ((y2 ^^^ x2 : Nat) : Int) < 65536 := by omega
              have h8 : ((y2 : Int) == 0) = false := by rw [beq_eq_false_iff_ne]; omega
              have h9 : (y2 == 0) = false := by simp [s6]
              have hkt : (k : Int).toNat = k := rfl
              have hkt1 : ((k : Int) + 1).toNat = k + 1 := by omega
              repeat' with_reducible first
                | refine wp_regionS (seg_eval (by simp -dsimp -implicitDefEqProofs [hd, hd2]; rfl) ?_)
                | refine wp_region (seg_eval (by simp -dsimp -implicitDefEqProofs [hd, hd2]; rfl) ?_)
                | refine seg_fin ?_
                | refine seg_pan ?_
                | refine seg_both ?_ ?_
                | refine seg_case (fun x h => ?_) (fun h => ?_)
                | refine seg_gate (fun h => ?_) (fun h => ?_)
                | refine seg_need ?_ ?_
                | refine wp_assoc ?_ | refine wp_skipS ?_ | refine wp_retS ?_ | refine wp_exitS ?_ | refine wp_dropS (wp_eqT (by simp -dsimp -implicitDefEqProofs; rfl) ?_) | refine wp_sealS (by simp -dsimp -implicitDefEqProofs; rfl) ?_ | refine wp_seal (by simp -dsimp -implicitDefEqProofs; rfl) ?_ | refine wp_pack_out ?_ | refine wp_blockS ?_ | refine wp_skip' ?_ | refine wp_ret' ?_ | refine wp_exit' ?_ | refine wp_drop (wp_eqT (by simp -dsimp -implicitDefEqProofs; rfl) ?_) | refine wp_block' ?_
                | refine wp_condVS (by simp -dsimp -implicitDefEqProofs; rfl) ?_
                | refine wp_condV (by simp -dsimp -implicitDefEqProofs; rfl) ?_
                | refine cond_t ?_ | refine cond_f ?_ | refine cond_v (fun h => ?_) (fun h => ?_)
                | refine post_then ?_ | refine post_thenE ?_ | refine post_thenP ?_ | refine post_blkP ?_ | refine post_thenR ?_ | refine post_blkN ?_ | refine post_blkE ?_ | refine post_blkF rfl ?_ | refine post_blkR ?_
                | refine seg_eval (by simp -dsimp -implicitDefEqProofs [hd, hd2]; rfl) ?_
              refine wp_drawsR (fun ts mm => ts = [(1, .fsl 2 (l.map avCh)), (2, .fptr (.agg [.v (.int .i64 v), .v (.int .u16 (m : Nat))]) 0), (9, .fsl 2 (A.map avRo)), (10, .v (.int .i64 ((k : Int) + 1))), (118, .v (.bool false))] ∧ mm = []) ?_ ?_
              · intro V hV
                repeat' with_reducible first
                  | refine wp_regionS (seg_eval (by simp -dsimp -implicitDefEqProofs [avRo, hd2, hd3, h641, h5, h6, h71, h8, h9, s7, hkt1, hx', hy', spSize, Int.toNat_natCast]; rfl) ?_)
                  | refine wp_region (seg_eval (by simp -dsimp -implicitDefEqProofs [avRo, hd2, hd3, h641, h5, h6, h71, h8, h9, s7, hkt1, hx', hy', spSize, Int.toNat_natCast]; rfl) ?_)
                  | refine wp_drawsS (seg_eval (by simp -dsimp -implicitDefEqProofs [avRo, hd2, hd3, h641, h5, h6, h71, h8, h9, s7, hkt1, hx', hy', spSize, Int.toNat_natCast]; rfl) ?_)
                  | refine wp_draws (seg_eval (by simp -dsimp -implicitDefEqProofs [avRo, hd2, hd3, h641, h5, h6, h71, h8, h9, s7, hkt1, hx', hy', spSize, Int.toNat_natCast]; rfl) ?_)
                  | refine seg_fin ?_
                  | refine seg_pan ?_
                  | refine seg_both ?_ ?_
                  | refine seg_case (fun x h => ?_) (fun h => ?_)
                  | refine seg_gate (fun h => ?_) (fun h => ?_)
                  | refine seg_need ?_ ?_
                  | refine wp_assoc ?_ | refine wp_skipS ?_ | refine wp_retS ?_ | refine wp_exitS ?_ | refine wp_dropS (wp_eqT (by simp -dsimp -implicitDefEqProofs; rfl) ?_) | refine wp_sealS (by simp -dsimp -implicitDefEqProofs; rfl) ?_ | refine wp_seal (by simp -dsimp -implicitDefEqProofs; rfl) ?_ | refine wp_pack_out ?_ | refine wp_blockS ?_ | refine wp_skip' ?_ | refine wp_ret' ?_ | refine wp_exit' ?_ | refine wp_drop (wp_eqT (by simp -dsimp -implicitDefEqProofs; rfl) ?_) | refine wp_block' ?_
                  | refine wp_condVS (by simp -dsimp -implicitDefEqProofs; rfl) ?_
                  | refine wp_condV (by simp -dsimp -implicitDefEqProofs; rfl) ?_
                  | refine cond_t ?_ | refine cond_f ?_ | refine cond_v (fun h => ?_) (fun h => ?_)
                  | refine post_then ?_ | refine post_thenE ?_ | refine post_thenP ?_ | refine post_blkP ?_ | refine post_thenR ?_ | refine post_blkN ?_ | refine post_blkE ?_ | refine post_blkF rfl ?_ | refine post_blkR ?_
                  | refine seg_eval (by simp -dsimp -implicitDefEqProofs [avRo, hd2, hd3, h641, h5, h6, h71, h8, h9, s7, hkt1, hx', hy', spSize, Int.toNat_natCast]; rfl) ?_
                all_goals first
                  | omega
                  | exact hV _ _ ⟨[], [], rfl, rfl, by simp, by simp⟩
                  | trace_state
              · rintro ts mm ⟨rfl, rfl⟩
                repeat' with_reducible first
                  | refine wp_regionS (seg_eval (by simp -dsimp -implicitDefEqProofs [h64]; rfl) ?_)
                  | refine wp_region (seg_eval (by simp -dsimp -implicitDefEqProofs [h64]; rfl) ?_)
                  | refine wp_drawsS (seg_eval (by simp -dsimp -implicitDefEqProofs [h64]; rfl) ?_)
                  | refine wp_draws (seg_eval (by simp -dsimp -implicitDefEqProofs [h64]; rfl) ?_)
                  | refine seg_fin ?_
                  | refine seg_pan ?_
                  | refine seg_both ?_ ?_
                  | refine seg_case (fun x h => ?_) (fun h => ?_)
                  | refine seg_gate (fun h => ?_) (fun h => ?_)
                  | refine seg_need ?_ ?_
                  | refine wp_assoc ?_ | refine wp_skipS ?_ | refine wp_retS ?_ | refine wp_exitS ?_ | refine wp_dropS (wp_eqT (by simp -dsimp -implicitDefEqProofs; rfl) ?_) | refine wp_sealS (by simp -dsimp -implicitDefEqProofs; rfl) ?_ | refine wp_seal (by simp -dsimp -implicitDefEqProofs; rfl) ?_ | refine wp_pack_out ?_ | refine wp_blockS ?_ | refine wp_skip' ?_ | refine wp_ret' ?_ | refine wp_exit' ?_ | refine wp_drop (wp_eqT (by simp -dsimp -implicitDefEqProofs; rfl) ?_) | refine wp_block' ?_
                  | refine wp_condVS (by simp -dsimp -implicitDefEqProofs; rfl) ?_
                  | refine wp_condV (by simp -dsimp -implicitDefEqProofs; rfl) ?_
                  | refine cond_t ?_ | refine cond_f ?_ | refine cond_v (fun h => ?_) (fun h => ?_)
                  | refine post_then ?_ | refine post_thenE ?_ | refine post_thenP ?_ | refine post_blkP ?_ | refine post_thenR ?_ | refine post_blkN ?_ | refine post_blkE ?_ | refine post_blkF rfl ?_ | refine post_blkR ?_
                  | refine seg_eval (by simp -dsimp -implicitDefEqProofs [h64]; rfl) ?_
                all_goals first
                  | omega
                  | exact ⟨j - 1, by omega, [], [], by simp, by simp, k + 1, by omega, by simp, by simp⟩
                  | trace_state
            · have hd : decide ((k : Int) + 1 < (A.length : Int)) = false := by rw [decide_eq_false_iff_not]; omega
              have hd2 : decide (k + 1 < A.length) = false := by simp; omega
              repeat' with_reducible first
                | refine wp_regionS (seg_eval (by simp -dsimp -implicitDefEqProofs [hd, hd2]; rfl) ?_)
                | refine wp_region (seg_eval (by simp -dsimp -implicitDefEqProofs [hd, hd2]; rfl) ?_)
                | refine wp_drawsS (seg_eval (by simp -dsimp -implicitDefEqProofs [hd, hd2]; rfl) ?_)
                | refine wp_draws (seg_eval (by simp -dsimp -implicitDefEqProofs [hd, hd2]; rfl) ?_)
                | refine seg_fin ?_
                | refine seg_pan ?_
                | refine seg_both ?_ ?_
                | refine seg_case (fun x h => ?_) (fun h => ?_)
                | refine seg_gate (fun h => ?_) (fun h => ?_)
                | refine seg_need ?_ ?_
                | refine wp_assoc ?_ | refine wp_skipS ?_ | refine wp_retS ?_ | refine wp_exitS ?_ | refine wp_dropS (wp_eqT (by simp -dsimp -implicitDefEqProofs; rfl) ?_) | refine wp_sealS (by simp -dsimp -implicitDefEqProofs; rfl) ?_ | refine wp_seal (by simp -dsimp -implicitDefEqProofs; rfl) ?_ | refine wp_pack_out ?_ | refine wp_blockS ?_ | refine wp_skip' ?_ | refine wp_ret' ?_ | refine wp_exit' ?_ | refine wp_drop (wp_eqT (by simp -dsimp -implicitDefEqProofs; rfl) ?_) | refine wp_block' ?_
                | refine wp_condVS (by simp -dsimp -implicitDefEqProofs; rfl) ?_
                | refine wp_condV (by simp -dsimp -implicitDefEqProofs; rfl) ?_
                | refine cond_t ?_ | refine cond_f ?_ | refine cond_v (fun h => ?_) (fun h => ?_)
                | refine post_then ?_ | refine post_thenE ?_ | refine post_thenP ?_ | refine post_blkP ?_ | refine post_thenR ?_ | refine post_blkN ?_ | refine post_blkE ?_ | refine post_blkF rfl ?_ | refine post_blkR ?_
                | refine seg_eval (by simp -dsimp -implicitDefEqProofs [hd, hd2]; rfl) ?_
              all_goals first
                | omega
                | exact hW _ _ ⟨by simp, by simp⟩
                | trace_state
          · rintro ts mm ⟨rfl, rfl⟩
            have w2 : IntKind.wrap .i64 ((l.length : Int) + 1) = (l.length : Int) + 1 := IntWalk.i64_in _ (by omega)
            have d1 : decide ((A.length : Int) ≤ (l.length : Int) + 1) = true := by rw [decide_eq_true_eq]; omega
            cases hr : rightV v m
            · have z := hzero.2 hr
              have z1 : (A.length == 0) = true := by simp [z]
              have z2 : ((A.length : Int) == 0) = true := by simp [z]
              repeat' with_reducible first
                | refine wp_regionS (seg_eval (by simp -dsimp -implicitDefEqProofs [spRightV, hm2, hr, z1, z2, w2, d1, Int.toNat_natCast]; rfl) ?_)
                | refine wp_region (seg_eval (by simp -dsimp -implicitDefEqProofs [spRightV, hm2, hr, z1, z2, w2, d1, Int.toNat_natCast]; rfl) ?_)
                | refine wp_drawsS (seg_eval (by simp -dsimp -implicitDefEqProofs [spRightV, hm2, hr, z1, z2, w2, d1, Int.toNat_natCast]; rfl) ?_)
                | refine wp_draws (seg_eval (by simp -dsimp -implicitDefEqProofs [spRightV, hm2, hr, z1, z2, w2, d1, Int.toNat_natCast]; rfl) ?_)
                | refine seg_fin ?_
                | refine seg_pan ?_
                | refine seg_both ?_ ?_
                | refine seg_case (fun x h => ?_) (fun h => ?_)
                | refine seg_gate (fun h => ?_) (fun h => ?_)
                | refine seg_need ?_ ?_
                | refine wp_assoc ?_ | refine wp_skipS ?_ | refine wp_retS ?_ | refine wp_exitS ?_ | refine wp_dropS (wp_eqT (by simp -dsimp -implicitDefEqProofs; rfl) ?_) | refine wp_sealS (by simp -dsimp -implicitDefEqProofs; rfl) ?_ | refine wp_seal (by simp -dsimp -implicitDefEqProofs; rfl) ?_ | refine wp_pack_out ?_ | refine wp_blockS ?_ | refine wp_skip' ?_ | refine wp_ret' ?_ | refine wp_exit' ?_ | refine wp_drop (wp_eqT (by simp -dsimp -implicitDefEqProofs; rfl) ?_) | refine wp_block' ?_
                | refine wp_condVS (by simp -dsimp -implicitDefEqProofs; rfl) ?_
                | refine wp_condV (by simp -dsimp -implicitDefEqProofs; rfl) ?_
                | refine cond_t ?_ | refine cond_f ?_ | refine cond_v (fun h => ?_) (fun h => ?_)
                | refine post_then ?_ | refine post_thenE ?_ | refine post_thenP ?_ | refine post_blkP ?_ | refine post_thenR ?_ | refine post_blkN ?_ | refine post_blkE ?_ | refine post_blkF rfl ?_ | refine post_blkR ?_
                | refine seg_eval (by simp -dsimp -implicitDefEqProofs [spRightV, hm2, hr, z1, z2, w2, d1, Int.toNat_natCast]; rfl) ?_
              all_goals first
                | omega
                | exact post_fin rfl rfl ⟨[], [], rfl, rfl, rfl, rfl⟩
                | trace_state
            · have z : A.length ≠ 0 := fun h => by rw [hzero.1 h] at hr; cases hr
              have z1 : (A.length == 0) = false := by simp [z]
              have z2 : ((A.length : Int) == 0) = false := by rw [beq_eq_false_iff_ne]; omega
              repeat' with_reducible first
                | refine wp_regionS (seg_eval (by simp -dsimp -implicitDefEqProofs [spRightV, hm2, hr, z1, z2, w2, d1, Int.toNat_natCast]; rfl) ?_)
                | refine wp_region (seg_eval (by simp -dsimp -implicitDefEqProofs [spRightV, hm2, hr, z1, z2, w2, d1, Int.toNat_natCast]; rfl) ?_)
                | refine wp_drawsS (seg_eval (by simp -dsimp -implicitDefEqProofs [spRightV, hm2, hr, z1, z2, w2, d1, Int.toNat_natCast]; rfl) ?_)
                | refine wp_draws (seg_eval (by simp -dsimp -implicitDefEqProofs [spRightV, hm2, hr, z1, z2, w2, d1, Int.toNat_natCast]; rfl) ?_)
                | refine seg_fin ?_
                | refine seg_pan ?_
                | refine seg_both ?_ ?_
                | refine seg_case (fun x h => ?_) (fun h => ?_)
                | refine seg_gate (fun h => ?_) (fun h => ?_)
                | refine seg_need ?_ ?_
                | refine wp_assoc ?_ | refine wp_skipS ?_ | refine wp_retS ?_ | refine wp_exitS ?_ | refine wp_dropS (wp_eqT (by simp -dsimp -implicitDefEqProofs; rfl) ?_) | refine wp_sealS (by simp -dsimp -implicitDefEqProofs; rfl) ?_ | refine wp_seal (by simp -dsimp -implicitDefEqProofs; rfl) ?_ | refine wp_pack_out ?_ | refine wp_blockS ?_ | refine wp_skip' ?_ | refine wp_ret' ?_ | refine wp_exit' ?_ | refine wp_drop (wp_eqT (by simp -dsimp -implicitDefEqProofs; rfl) ?_) | refine wp_block' ?_
                | refine wp_condVS (by simp -dsimp -implicitDefEqProofs; rfl) ?_
                | refine wp_condV (by simp -dsimp -implicitDefEqProofs; rfl) ?_
                | refine cond_t ?_ | refine cond_f ?_ | refine cond_v (fun h => ?_) (fun h => ?_)
                | refine post_then ?_ | refine post_thenE ?_ | refine post_thenP ?_ | refine post_blkP ?_ | refine post_thenR ?_ | refine post_blkN ?_ | refine post_blkE ?_ | refine post_blkF rfl ?_ | refine post_blkR ?_
                | refine seg_eval (by simp -dsimp -implicitDefEqProofs [spRightV, hm2, hr, z1, z2, w2, d1, Int.toNat_natCast]; rfl) ?_
              all_goals first
                | omega
                | exact post_fin rfl rfl ⟨[], [], rfl, rfl, rfl, rfl⟩
                | trace_state
  · have c1 : decide ((100 : Int) < (l.length : Int)) = true := by rw [decide_eq_true_eq]; omega
    have c2 : decide (100 < l.length) = true := by simp; omega
    repeat' with_reducible first
      | refine wp_regionS (seg_eval (by simp -dsimp -implicitDefEqProofs [spYes, c1, c2]; rfl) ?_)
      | refine wp_region (seg_eval (by simp -dsimp -implicitDefEqProofs [spYes, c1, c2]; rfl) ?_)
      | refine wp_drawsS (seg_eval (by simp -dsimp -implicitDefEqProofs [spYes, c1, c2]; rfl) ?_)
      | refine wp_draws (seg_eval (by simp -dsimp -implicitDefEqProofs [spYes, c1, c2]; rfl) ?_)
      | refine seg_fin ?_
      | refine seg_pan ?_
      | refine seg_both ?_ ?_
      | refine seg_case (fun x h => ?_) (fun h => ?_)
      | refine seg_gate (fun h => ?_) (fun h => ?_)
      | refine seg_need ?_ ?_
      | refine wp_assoc ?_ | refine wp_skipS ?_ | refine wp_retS ?_ | refine wp_exitS ?_ | refine wp_dropS (wp_eqT (by simp -dsimp -implicitDefEqProofs; rfl) ?_) | refine wp_sealS (by simp -dsimp -implicitDefEqProofs; rfl) ?_ | refine wp_seal (by simp -dsimp -implicitDefEqProofs; rfl) ?_ | refine wp_pack_out ?_ | refine wp_blockS ?_ | refine wp_skip' ?_ | refine wp_ret' ?_ | refine wp_exit' ?_ | refine wp_drop (wp_eqT (by simp -dsimp -implicitDefEqProofs; rfl) ?_) | refine wp_block' ?_
      | refine wp_condVS (by simp -dsimp -implicitDefEqProofs; rfl) ?_
      | refine wp_condV (by simp -dsimp -implicitDefEqProofs; rfl) ?_
      | refine cond_t ?_ | refine cond_f ?_ | refine cond_v (fun h => ?_) (fun h => ?_)
      | refine post_then ?_ | refine post_thenE ?_ | refine post_thenP ?_ | refine post_blkP ?_ | refine post_thenR ?_ | refine post_blkN ?_ | refine post_blkE ?_ | refine post_blkF rfl ?_ | refine post_blkR ?_
      | refine seg_eval (by simp -dsimp -implicitDefEqProofs [spYes, c1, c2]; rfl) ?_
    all_goals first
      | omega
      | exact post_fin rfl rfl ⟨[], [], rfl, rfl, rfl, rfl⟩
      | trace_state
end Go.Proofs.YtjmgnodeohmboaaDoor.Am
