/-
  EACH MEMBER FLUSHES ONCE, AND WHAT WAS PUT FIRST STAYS.
-/
import Derived.Test.YtbponegjfccgfaaFPL
import Derived.Test.YtbponegjfccgfaaAmK
import Derived.Test.YtbponegjfccgfaaBG
import Derived.Test.YtbponegjfccgfaaC2
namespace Go.Proofs.Ytbponegjfccgfaa.Am
set_option linter.unusedSimpArgs false
set_option linter.unusedVariables false
open Go Go.Proofs
section
variable {Γ : Env} {N : Nat} {Q : Post} {ts : Tm} {m : List Blk}
theorem then_self (Q : Post) : AExit.thenA (fun ts m => Q .normal ts m) Q = Q := by funext e ts m; cases e <;> rfl
/-- The same, where nothing comes behind it in its block. -/
theorem wp_loopE {keep : List Nat} {b : ACode} {i : Nat} (R : Tm → List Blk → Prop) (I : Nat → Tm → List Blk → Prop) (n : Nat) (h0 : into N keep (I n) ts m)
    (h1 : ∀ W : Tm → List Blk → Prop, (∀ ts m, R ts m → W ts m) → ∀ n ts m, I n ts m → wpA Γ N b (AExit.thenA (fun ts' m' => ∃ k, k < n ∧ into N keep (I k) ts' m') (AExit.inBlk i (AExit.thenA W Q))) ts m)
    (hr : ∀ ts m, R ts m → Q .normal ts m) : wpA Γ N (.loop keep b) (AExit.inBlk i Q) ts m := ⟨I, n, h0, by
      have := h1 _ hr
      rw [then_self] at this
      exact this⟩
end
attribute [local irreducible] wpA
attribute [-simp] splice

noncomputable def spFlushOnce : Spec := spc (X := Int × List Mk) (fun p => ([.v (.int .u16 p.1), .fsl 17 (p.2.map avMk)], []))
  (fun p => 0 ≤ p.1 ∧ p.1 < 65536 ∧ (∀ y ∈ p.2, okMk y) ∧ p.2.length ≤ maxLen) (fun _ => (.ret (.v (.bool true)), []))
def flX (s : Int) (l : List Mk) (b : Blk) : Prop := (l = [] ∧ b = .var [.v (.int .u16 s), .v (.slice none 0 0)]) ∨ b = .var [.v (.int .u16 s), .fsl 17 (l.map avMk)]
/-- What was put first stands where it was put. -/
def firstB (bg : List Mk) (l : List Mk) : Prop := bg.length = 16 ∧ okB bg ∧ ∀ y ∈ l, bg[y.who.toNat]? = some y
theorem bit_wrap16o (i : Nat) (hi : i < 16) : IntKind.wrap .u16 (1 * 2 ^ min i 16) = ((bitS i : Nat) : Int) := by
  unfold bitS
  rw [if_pos hi]
  have : ∀ k : Fin 16, IntKind.wrap .u16 (1 * 2 ^ min k.val 16) = ((2 ^ k.val : Nat) : Int) := by decide
  exact this ⟨i, hi⟩
theorem shr_has {m i : Nat} (hi : i < 16) : ((((m : Int).fdiv (2 ^ min i 16)).tmod 2 == 1) : Bool) = hasS m i := by
  rw [Nat.min_eq_left (by omega)]
  have e : (m : Int).fdiv (2 ^ i) = ((m / 2 ^ i : Nat) : Int) := by
    rw [Int.fdiv_eq_ediv_of_nonneg _ (by exact Int.le_of_lt (Int.pow_pos (by decide)))]
    simp
  rw [e, ← has_div (m := m) (i := i)]
  generalize m / 2 ^ i = q
  have e2 : (q : Int).tmod 2 = ((q % 2 : Nat) : Int) := rfl
  rw [e2, Bool.eq_iff_iff]
  simp only [beq_iff_eq]
  omega
theorem first_nil : firstB (List.replicate 16 ⟨0, zV⟩) [] := ⟨by simp, fun m hm => by rw [List.eq_of_mem_replicate hm]; exact zV_length, fun y hy => by simp at hy⟩
theorem first_put {s : Nat} {bg l tk : List Mk} {m : Mk} (hs : s < 65536) (h : firstB bg l) (hg : GoodF s l tk) (hm : okMk m) (hz : (putF s l m).2 = 0) : firstB (bg.set m.who.toNat m) (putF s l m).1 := by
  rw [putF_yes hz]
  obtain ⟨h1, h2, h3, h4⟩ := putF_zero.1 hz
  have hw := has_lt hs h2
  refine ⟨by simp [h.1], fun x hx => ?_, fun y hy => ?_⟩
  · rcases List.mem_or_eq_of_mem_set hx with hx | rfl
    · exact h.2.1 x hx
    · exact hm.2.2.1
  · rcases mem_insK.1 hy with rfl | hy
    · rw [List.getElem?_set_self (by rw [h.1]; exact hw)]
    · have hne : y.who ≠ m.who := isK_false.1 h3 y hy
      have hy0 := (hg.2.2.1 y hy).2.2.1
      have hm0 := hm.1
      rw [List.getElem?_set_ne (by omega)]
      exact h.2.2 y hy

set_option maxRecDepth 100000 in
set_option maxHeartbeats 40000000 in
theorem flushOnce_ok : CallOk Try.prog 7 spFlushOnce := by
  refine ok_7 (Env.put_ok [] (Env.put_ok [] (Env.put_ok [] (Env.put_ok [] (Env.none_ok _) alive13_ok) (CallOk.fixD [.agg [.no, .k 17]] oursF_ok)) (CallOk.fixD [.agg [.no, .k 17]] putF_ok)) sameF_ok) spFlushOnce (wb_spc ?_)
  rintro ⟨s, ms⟩ ⟨hs0, hs1, hms, hmx⟩
  simp only at hs0 hs1 hms hmx ⊢
  obtain ⟨s, rfl⟩ := Int.eq_ofNat_of_zero_le hs0
  have hs : s < 65536 := by omega
  have hml : ms.length ≤ 9223372036854775807 := by have := hmx; unfold maxLen at this; omega
  unfold ac_7
  repeat' first
      | with_reducible refine wp_regionS (seg_eval (by simp -dsimp -implicitDefEqProofs [spAlive]; rfl) ?_)
      | with_reducible refine wp_region (seg_eval (by simp -dsimp -implicitDefEqProofs [spAlive]; rfl) ?_)
      | with_reducible refine wp_drawsS (seg_eval (by simp -dsimp -implicitDefEqProofs [spAlive]; rfl) ?_)
      | with_reducible refine wp_draws (seg_eval (by simp -dsimp -implicitDefEqProofs [spAlive]; rfl) ?_)
      | with_reducible refine seg_fin ?_
      | with_reducible refine seg_pan ?_
      | with_reducible refine seg_both ?_ ?_
      | with_reducible refine seg_case (fun x h => ?_) (fun h => ?_)
      | with_reducible refine seg_gate (fun h => ?_) (fun h => ?_)
      | with_reducible refine seg_need ?_ ?_
      | with_reducible refine wp_assoc ?_ | with_reducible refine wp_skipS ?_ | with_reducible refine wp_retS ?_ | with_reducible refine wp_exitS ?_ | with_reducible refine wp_dropS (wp_eqT (by simp -dsimp -implicitDefEqProofs [spAlive]; rfl) ?_) | with_reducible refine wp_sealS (by simp -dsimp -implicitDefEqProofs [spAlive]; rfl) ?_ | with_reducible refine wp_seal (by simp -dsimp -implicitDefEqProofs [spAlive]; rfl) ?_ | with_reducible refine wp_closeS (by simp -dsimp -implicitDefEqProofs [spAlive]; rfl) ?_ | with_reducible refine wp_close (by simp -dsimp -implicitDefEqProofs [spAlive]; rfl) ?_ | with_reducible refine wp_conc_out ?_ | with_reducible refine wp_open_out ?_ | with_reducible refine wp_pack_out ?_ | with_reducible refine wp_blockS ?_ | with_reducible refine wp_skip' ?_ | with_reducible refine wp_ret' ?_ | with_reducible refine wp_exit' ?_ | with_reducible refine wp_drop (wp_eqT (by simp -dsimp -implicitDefEqProofs [spAlive]; rfl) ?_) | with_reducible refine wp_block' ?_
      | with_reducible refine wp_condVS (by simp -dsimp -implicitDefEqProofs [spAlive]; rfl) ?_
      | with_reducible refine wp_condV (by simp -dsimp -implicitDefEqProofs [spAlive]; rfl) ?_
      | with_reducible refine cond_t ?_ | with_reducible refine cond_f ?_ | with_reducible refine cond_v (fun h => ?_) (fun h => ?_)
      | with_reducible refine post_then ?_ | with_reducible refine post_thenE ?_ | with_reducible refine post_thenP ?_ | with_reducible refine post_blkP ?_ | with_reducible refine post_thenR ?_ | with_reducible refine post_blkN ?_ | with_reducible refine post_blkE ?_ | with_reducible refine post_blkF rfl ?_ | with_reducible refine post_blkR ?_
      | with_reducible refine seg_eval (by simp -dsimp -implicitDefEqProofs [spAlive]; rfl) ?_
  refine wp_loop' (fun j ts mm => ∃ (i hn : Nat) (l tk bg : List Mk) (ba : Blk), i + j = ms.length ∧ i ≤ 40 ∧ tk.length ≤ i ∧ GoodF s l tk ∧ HadF s hn l ∧ firstB bg l ∧ flX s l ba ∧
    ts = [(1, .fsl 17 (ms.map avMk)), (5, .ptr 0 0 0), (6, .ptr 1 0 0), (7, .v (.int .u16 hn)), (8, .v (.int .i64 i))] ∧ mm = [ba, .var (bigc bg)]) ms.length ?_ ?_
  · exact ⟨[], [0, 1], rfl, rfl, 0, 0, [], [], List.replicate 16 ⟨0, zV⟩, _, by omega, by omega, by simp, good_nil _, had_nil _, first_nil, .inl ⟨rfl, rfl⟩, by simp, by rw [show (zV = List.replicate 16 0) from rfl, bigc_zero]; rfl⟩
  · rintro j ts mm ⟨i, hn, l, tk, bg, ba, hi, hi40, htl, hg, hh, hfb, hba, rfl, rfl⟩
    have hok := good_ok hg
    have hll := good_len hg
    obtain ⟨hbl, hbo, hbm⟩ := id hfb
    have hbc := bigc_length hbo
    rw [hbl] at hbc
    by_cases hlt : i < ms.length
    · have hd : decide ((i : Int) < (ms.length : Int)) = true := by rw [decide_eq_true_eq]; omega
      have hd2 : decide (i < ms.length) = true := by simp [hlt]
      by_cases h40 : i < 40
      · have hd4 : decide ((i : Int) < 40) = true := by rw [decide_eq_true_eq]; omega
        have hd5 : decide (i < 40) = true := by simp [h40]
        obtain ⟨x, hx⟩ : ∃ x, ms[i]? = some x := ⟨_, List.getElem?_eq_getElem (by omega)⟩
        have hm := hms x (List.mem_of_getElem? hx)
        have h64 : IntKind.wrap .i64 ((i : Int) + 1) = ((i + 1 : Nat) : Int) := by rw [IntWalk.i64_in _ (by omega)]; rfl
        obtain ⟨w, v⟩ := x
        have hvl : v.length = 16 := hm.2.2.1
        have hw0 : 0 ≤ w := hm.1
        have hw1 : w < 256 := hm.2.1
        obtain ⟨w, rfl⟩ := Int.eq_ofNat_of_zero_le hw0
        have hP := putFAt s l w v
        rw [if_pos ⟨hs0, hs1, by omega, hok, hm⟩] at hP
        have hag := had_again (m := ⟨(w : Int), v⟩) hg hh hm
        have hfp := fun hz => first_put (m := ⟨(w : Int), v⟩) hs hfb hg hm hz
        have hhp := fun hz => had_put (m := ⟨(w : Int), v⟩) hs hh hz
        have hlw := fun hz => has_lt hs ((putF_zero (s := s) (l := l) (m := ⟨(w : Int), v⟩)).1 hz).2.1
        have hgp := good_put hg hm
        simp only [Int.toNat_natCast] at hP hag hfp hhp hlw
        have hS := sameFAt s l s l
        rw [if_pos ⟨hs0, hs0, by omega, by omega, hok, hok⟩, sameF_iff.2 ⟨rfl, rfl⟩] at hS
        have hC := convFAt s l
        rw [if_pos ⟨by omega, hok⟩] at hC
        have hmt := mc_tail (k := (w : Int)) hvl
        have hmp := mc_past (k := (w : Int)) hvl
        by_cases hz : (putF s l ⟨(w : Int), v⟩).2 = 0
        · have FB := hfp hz
          have hh' := hhp hz
          have hw16 := hlw hz
          rcases hgp with ⟨_, hg'⟩ | ⟨hno, _⟩
          · have hnh : hasS hn w = false := by
              cases hc : hasS hn w
              · rfl
              · rw [hag hc] at hz; simp at hz
            have hsh := shr_has (m := hn) hw16
            rw [hnh] at hsh
            have hbp := bigc_put' (l := bg) (k := w) (w := (w : Int)) (v := v) hbo (by omega) hvl
            rw [hz] at hP
            clear hag hfp hhp hlw
            generalize (putF s l ⟨(w : Int), v⟩).1 = l' at *
            have hok' := good_ok hg'
            have hll' := good_len hg'
            have hl41 : l'.length ≤ 41 := by rw [hll', List.length_append, List.length_singleton]; omega
            have hor : orI .u16 (hn : Int) ((bitS w : Nat) : Int) = ((withS hn w : Nat) : Int) := or_nat hn (bitS w) hh.1 (bitS_lt w)
            have hbx := bit_wrap16o w hw16
            have hbx2 : IntKind.wrap .u16 (2 ^ min w 16) = ((bitS w : Nat) : Int) := by rw [← hbx, Int.one_mul]
            have hr : Int.tmod (w : Int) 16 = (w : Int) := Int.tmod_eq_of_lt (by omega) (by omega)
            have hd6 : decide ((w : Int) < 16) = true := by rw [decide_eq_true_eq]; omega
            have hd7 : decide (w < 16) = true := by simp [hw16]
            rcases hba with ⟨hl0, rfl⟩ | rfl
            all_goals (
              try (rw [hl0] at hP hS hC; simp only [List.map_nil] at hP hS hC)
              repeat' first
                  | with_reducible refine wp_regionS (seg_eval (by simp -dsimp -implicitDefEqProofs [zV_rest, avMk, cMk, hd, hd2, hd4, hd5, hd6, hd7, h64, hx, hvl, hP, hC, hS, hr, hor, hbx, hbx2, hbp, hbc, hmt, hmp, hw16, hsh]; rfl) ?_)
                  | with_reducible refine wp_region (seg_eval (by simp -dsimp -implicitDefEqProofs [zV_rest, avMk, cMk, hd, hd2, hd4, hd5, hd6, hd7, h64, hx, hvl, hP, hC, hS, hr, hor, hbx, hbx2, hbp, hbc, hmt, hmp, hw16, hsh]; rfl) ?_)
                  | with_reducible refine wp_drawsS (seg_eval (by simp -dsimp -implicitDefEqProofs [zV_rest, avMk, cMk, hd, hd2, hd4, hd5, hd6, hd7, h64, hx, hvl, hP, hC, hS, hr, hor, hbx, hbx2, hbp, hbc, hmt, hmp, hw16, hsh]; rfl) ?_)
                  | with_reducible refine wp_draws (seg_eval (by simp -dsimp -implicitDefEqProofs [zV_rest, avMk, cMk, hd, hd2, hd4, hd5, hd6, hd7, h64, hx, hvl, hP, hC, hS, hr, hor, hbx, hbx2, hbp, hbc, hmt, hmp, hw16, hsh]; rfl) ?_)
                  | with_reducible refine seg_fin ?_
                  | with_reducible refine seg_pan ?_
                  | with_reducible refine seg_both ?_ ?_
                  | with_reducible refine seg_case (fun x h => ?_) (fun h => ?_)
                  | with_reducible refine seg_gate (fun h => ?_) (fun h => ?_)
                  | with_reducible refine seg_need ?_ ?_
                  | with_reducible refine wp_assoc ?_ | with_reducible refine wp_skipS ?_ | with_reducible refine wp_retS ?_ | with_reducible refine wp_exitS ?_ | with_reducible refine wp_dropS (wp_eqT (by simp -dsimp -implicitDefEqProofs [zV_rest, avMk, cMk, hd, hd2, hd4, hd5, hd6, hd7, h64, hx, hvl, hP, hC, hS, hr, hor, hbx, hbx2, hbp, hbc, hmt, hmp, hw16, hsh]; rfl) ?_) | with_reducible refine wp_sealS (by simp -dsimp -implicitDefEqProofs [zV_rest, avMk, cMk, hd, hd2, hd4, hd5, hd6, hd7, h64, hx, hvl, hP, hC, hS, hr, hor, hbx, hbx2, hbp, hbc, hmt, hmp, hw16, hsh]; rfl) ?_ | with_reducible refine wp_seal (by simp -dsimp -implicitDefEqProofs [zV_rest, avMk, cMk, hd, hd2, hd4, hd5, hd6, hd7, h64, hx, hvl, hP, hC, hS, hr, hor, hbx, hbx2, hbp, hbc, hmt, hmp, hw16, hsh]; rfl) ?_ | with_reducible refine wp_closeS (by simp -dsimp -implicitDefEqProofs [zV_rest, avMk, cMk, hd, hd2, hd4, hd5, hd6, hd7, h64, hx, hvl, hP, hC, hS, hr, hor, hbx, hbx2, hbp, hbc, hmt, hmp, hw16, hsh]; rfl) ?_ | with_reducible refine wp_close (by simp -dsimp -implicitDefEqProofs [zV_rest, avMk, cMk, hd, hd2, hd4, hd5, hd6, hd7, h64, hx, hvl, hP, hC, hS, hr, hor, hbx, hbx2, hbp, hbc, hmt, hmp, hw16, hsh]; rfl) ?_ | with_reducible refine wp_conc_out ?_ | with_reducible refine wp_open_out ?_ | with_reducible refine wp_pack_out ?_ | with_reducible refine wp_blockS ?_ | with_reducible refine wp_skip' ?_ | with_reducible refine wp_ret' ?_ | with_reducible refine wp_exit' ?_ | with_reducible refine wp_drop (wp_eqT (by simp -dsimp -implicitDefEqProofs [zV_rest, avMk, cMk, hd, hd2, hd4, hd5, hd6, hd7, h64, hx, hvl, hP, hC, hS, hr, hor, hbx, hbx2, hbp, hbc, hmt, hmp, hw16, hsh]; rfl) ?_) | with_reducible refine wp_block' ?_
                  | with_reducible refine wp_condVS (by simp -dsimp -implicitDefEqProofs [zV_rest, avMk, cMk, hd, hd2, hd4, hd5, hd6, hd7, h64, hx, hvl, hP, hC, hS, hr, hor, hbx, hbx2, hbp, hbc, hmt, hmp, hw16, hsh]; rfl) ?_
                  | with_reducible refine wp_condV (by simp -dsimp -implicitDefEqProofs [zV_rest, avMk, cMk, hd, hd2, hd4, hd5, hd6, hd7, h64, hx, hvl, hP, hC, hS, hr, hor, hbx, hbx2, hbp, hbc, hmt, hmp, hw16, hsh]; rfl) ?_
                  | with_reducible refine cond_t ?_ | with_reducible refine cond_f ?_ | with_reducible refine cond_v (fun h => ?_) (fun h => ?_)
                  | with_reducible refine post_then ?_ | with_reducible refine post_thenE ?_ | with_reducible refine post_thenP ?_ | with_reducible refine post_blkP ?_ | with_reducible refine post_thenR ?_ | with_reducible refine post_blkN ?_ | with_reducible refine post_blkE ?_ | with_reducible refine post_blkF rfl ?_ | with_reducible refine post_blkR ?_
                  | with_reducible refine seg_eval (by simp -dsimp -implicitDefEqProofs [zV_rest, avMk, cMk, hd, hd2, hd4, hd5, hd6, hd7, h64, hx, hvl, hP, hC, hS, hr, hor, hbx, hbx2, hbp, hbc, hmt, hmp, hw16, hsh]; rfl) ?_
              all_goals first
                | omega
                | skip
              all_goals (
                refine wp_loopE (fun ts mm => ts = [(1, .fsl 17 (ms.map avMk)), (5, .ptr 0 0 0), (6, .ptr 1 0 0), (7, .v (.int .u16 ((withS hn w) : Nat))), (8, .v (.int .i64 i))] ∧ mm = [.var [.v (.int .u16 (s : Int)), .fsl 17 (l'.map avMk)], .var (bigc (bg.set w ⟨(w : Int), v⟩))])
                  (fun j2 ts mm => ∃ k : Nat, k + j2 = l'.length ∧ ts = [(1, .fsl 17 (ms.map avMk)), (5, .ptr 0 0 0), (6, .ptr 1 0 0), (7, .v (.int .u16 ((withS hn w) : Nat))), (8, .v (.int .i64 i)), (80, .fsl 17 (l'.map avMk)), (81, .v (.int .i64 l'.length)), (82, .v (.int .i64 k))] ∧
                    mm = [.var [.v (.int .u16 (s : Int)), .fsl 17 (l'.map avMk)], .var (bigc (bg.set w ⟨(w : Int), v⟩))]) l'.length ?_ ?_ ?_
                · exact ⟨[], [0, 1], by simp, by simp, 0, by omega, by first | (simp; done) | (simp [hl0]; done), by first | (simp; done) | (simp [hl0]; done)⟩
                · rintro W hW j2 ts mm ⟨k, hk, rfl, rfl⟩
                  by_cases hlt2 : k < l'.length
                  · have g1 : decide ((k : Int) < (l'.length : Int)) = true := by rw [decide_eq_true_eq]; omega
                    have g2 : decide (k < l'.length) = true := by simp [hlt2]
                    obtain ⟨y, hy⟩ : ∃ y, l'[k]? = some y := ⟨_, List.getElem?_eq_getElem (by omega)⟩
                    have hyg := hg'.2.2.1 y (List.mem_of_getElem? hy)
                    have hyb := FB.2.2 y (List.mem_of_getElem? hy)
                    have hy16 := has_lt hs hyg.1
                    have g64 : IntKind.wrap .i64 ((k : Int) + 1) = ((k + 1 : Nat) : Int) := by rw [IntWalk.i64_in _ (by omega)]; rfl
                    have hyw0 : 0 ≤ y.who := hyg.2.2.1
                    have hyl : y.past.length = 16 := hyg.2.2.2.2.1
                    obtain ⟨yw, yv⟩ := y
                    simp only at hyw0 hy16 hyb hyl
                    obtain ⟨yw, rfl⟩ := Int.eq_ofNat_of_zero_le hyw0
                    simp only [Int.toNat_natCast] at hy16 hyb
                    have gw : yw * 17 ≤ 255 := by omega
                    have gr : Int.tmod (yw : Int) 16 = (yw : Int) := Int.tmod_eq_of_lt (by omega) (by omega)
                    have gat := bigc_at' FB.2.1 hyb
                    have gbl := bigc_length FB.2.1
                    rw [FB.1] at gbl
                    have geq := eqCells_17 (k := (yw : Int)) (k' := (yw : Int)) hyl hyl
                    rw [eqV_self] at geq
                    repeat' first
                        | with_reducible refine wp_regionS (seg_eval (by simp -dsimp -implicitDefEqProofs [zV_rest, avMk, cMk, g1, g2, g64, hy, hyl, hy16, gw, gr, gat, gbl, geq]; rfl) ?_)
                        | with_reducible refine wp_region (seg_eval (by simp -dsimp -implicitDefEqProofs [zV_rest, avMk, cMk, g1, g2, g64, hy, hyl, hy16, gw, gr, gat, gbl, geq]; rfl) ?_)
                        | with_reducible refine wp_drawsS (seg_eval (by simp -dsimp -implicitDefEqProofs [zV_rest, avMk, cMk, g1, g2, g64, hy, hyl, hy16, gw, gr, gat, gbl, geq]; rfl) ?_)
                        | with_reducible refine wp_draws (seg_eval (by simp -dsimp -implicitDefEqProofs [zV_rest, avMk, cMk, g1, g2, g64, hy, hyl, hy16, gw, gr, gat, gbl, geq]; rfl) ?_)
                        | with_reducible refine seg_fin ?_
                        | with_reducible refine seg_pan ?_
                        | with_reducible refine seg_both ?_ ?_
                        | with_reducible refine seg_case (fun x h => ?_) (fun h => ?_)
                        | with_reducible refine seg_gate (fun h => ?_) (fun h => ?_)
                        | with_reducible refine seg_need ?_ ?_
                        | with_reducible refine wp_assoc ?_ | with_reducible refine wp_skipS ?_ | with_reducible refine wp_retS ?_ | with_reducible refine wp_exitS ?_ | with_reducible refine wp_dropS (wp_eqT (by simp -dsimp -implicitDefEqProofs [zV_rest, avMk, cMk, g1, g2, g64, hy, hyl, hy16, gw, gr, gat, gbl, geq]; rfl) ?_) | with_reducible refine wp_sealS (by simp -dsimp -implicitDefEqProofs [zV_rest, avMk, cMk, g1, g2, g64, hy, hyl, hy16, gw, gr, gat, gbl, geq]; rfl) ?_ | with_reducible refine wp_seal (by simp -dsimp -implicitDefEqProofs [zV_rest, avMk, cMk, g1, g2, g64, hy, hyl, hy16, gw, gr, gat, gbl, geq]; rfl) ?_ | with_reducible refine wp_closeS (by simp -dsimp -implicitDefEqProofs [zV_rest, avMk, cMk, g1, g2, g64, hy, hyl, hy16, gw, gr, gat, gbl, geq]; rfl) ?_ | with_reducible refine wp_close (by simp -dsimp -implicitDefEqProofs [zV_rest, avMk, cMk, g1, g2, g64, hy, hyl, hy16, gw, gr, gat, gbl, geq]; rfl) ?_ | with_reducible refine wp_conc_out ?_ | with_reducible refine wp_open_out ?_ | with_reducible refine wp_pack_out ?_ | with_reducible refine wp_blockS ?_ | with_reducible refine wp_skip' ?_ | with_reducible refine wp_ret' ?_ | with_reducible refine wp_exit' ?_ | with_reducible refine wp_drop (wp_eqT (by simp -dsimp -implicitDefEqProofs [zV_rest, avMk, cMk, g1, g2, g64, hy, hyl, hy16, gw, gr, gat, gbl, geq]; rfl) ?_) | with_reducible refine wp_block' ?_
                        | with_reducible refine wp_condVS (by simp -dsimp -implicitDefEqProofs [zV_rest, avMk, cMk, g1, g2, g64, hy, hyl, hy16, gw, gr, gat, gbl, geq]; rfl) ?_
                        | with_reducible refine wp_condV (by simp -dsimp -implicitDefEqProofs [zV_rest, avMk, cMk, g1, g2, g64, hy, hyl, hy16, gw, gr, gat, gbl, geq]; rfl) ?_
                        | with_reducible refine cond_t ?_ | with_reducible refine cond_f ?_ | with_reducible refine cond_v (fun h => ?_) (fun h => ?_)
                        | with_reducible refine post_then ?_ | with_reducible refine post_thenE ?_ | with_reducible refine post_thenP ?_ | with_reducible refine post_blkP ?_ | with_reducible refine post_thenR ?_ | with_reducible refine post_blkN ?_ | with_reducible refine post_blkE ?_ | with_reducible refine post_blkF rfl ?_ | with_reducible refine post_blkR ?_
                        | with_reducible refine seg_eval (by simp -dsimp -implicitDefEqProofs [zV_rest, avMk, cMk, g1, g2, g64, hy, hyl, hy16, gw, gr, gat, gbl, geq]; rfl) ?_
                    all_goals first
                      | omega
                      | exact ⟨j2 - 1, by omega, [], [0, 1], by simp, by simp, k + 1, by omega, by simp [avMk, cMk], by simp [avMk, cMk]⟩
                      | trace_state
                  · have g1 : decide ((k : Int) < (l'.length : Int)) = false := by rw [decide_eq_false_iff_not]; omega
                    have g2 : decide (k < l'.length) = false := by simp [hlt2]
                    repeat' first
                        | with_reducible refine wp_regionS (seg_eval (by simp -dsimp -implicitDefEqProofs [g1, g2]; rfl) ?_)
                        | with_reducible refine wp_region (seg_eval (by simp -dsimp -implicitDefEqProofs [g1, g2]; rfl) ?_)
                        | with_reducible refine wp_drawsS (seg_eval (by simp -dsimp -implicitDefEqProofs [g1, g2]; rfl) ?_)
                        | with_reducible refine wp_draws (seg_eval (by simp -dsimp -implicitDefEqProofs [g1, g2]; rfl) ?_)
                        | with_reducible refine seg_fin ?_
                        | with_reducible refine seg_pan ?_
                        | with_reducible refine seg_both ?_ ?_
                        | with_reducible refine seg_case (fun x h => ?_) (fun h => ?_)
                        | with_reducible refine seg_gate (fun h => ?_) (fun h => ?_)
                        | with_reducible refine seg_need ?_ ?_
                        | with_reducible refine wp_assoc ?_ | with_reducible refine wp_skipS ?_ | with_reducible refine wp_retS ?_ | with_reducible refine wp_exitS ?_ | with_reducible refine wp_dropS (wp_eqT (by simp -dsimp -implicitDefEqProofs [g1, g2]; rfl) ?_) | with_reducible refine wp_sealS (by simp -dsimp -implicitDefEqProofs [g1, g2]; rfl) ?_ | with_reducible refine wp_seal (by simp -dsimp -implicitDefEqProofs [g1, g2]; rfl) ?_ | with_reducible refine wp_closeS (by simp -dsimp -implicitDefEqProofs [g1, g2]; rfl) ?_ | with_reducible refine wp_close (by simp -dsimp -implicitDefEqProofs [g1, g2]; rfl) ?_ | with_reducible refine wp_conc_out ?_ | with_reducible refine wp_open_out ?_ | with_reducible refine wp_pack_out ?_ | with_reducible refine wp_blockS ?_ | with_reducible refine wp_skip' ?_ | with_reducible refine wp_ret' ?_ | with_reducible refine wp_exit' ?_ | with_reducible refine wp_drop (wp_eqT (by simp -dsimp -implicitDefEqProofs [g1, g2]; rfl) ?_) | with_reducible refine wp_block' ?_
                        | with_reducible refine wp_condVS (by simp -dsimp -implicitDefEqProofs [g1, g2]; rfl) ?_
                        | with_reducible refine wp_condV (by simp -dsimp -implicitDefEqProofs [g1, g2]; rfl) ?_
                        | with_reducible refine cond_t ?_ | with_reducible refine cond_f ?_ | with_reducible refine cond_v (fun h => ?_) (fun h => ?_)
                        | with_reducible refine post_then ?_ | with_reducible refine post_thenE ?_ | with_reducible refine post_thenP ?_ | with_reducible refine post_blkP ?_ | with_reducible refine post_thenR ?_ | with_reducible refine post_blkN ?_ | with_reducible refine post_blkE ?_ | with_reducible refine post_blkF rfl ?_ | with_reducible refine post_blkR ?_
                        | with_reducible refine seg_eval (by simp -dsimp -implicitDefEqProofs [g1, g2]; rfl) ?_
                    exact hW _ _ ⟨by simp, by simp⟩
                · rintro ts mm ⟨rfl, rfl⟩
                  repeat' first
                      | with_reducible refine wp_regionS (seg_eval (by simp -dsimp -implicitDefEqProofs [h64]; rfl) ?_)
                      | with_reducible refine wp_region (seg_eval (by simp -dsimp -implicitDefEqProofs [h64]; rfl) ?_)
                      | with_reducible refine wp_drawsS (seg_eval (by simp -dsimp -implicitDefEqProofs [h64]; rfl) ?_)
                      | with_reducible refine wp_draws (seg_eval (by simp -dsimp -implicitDefEqProofs [h64]; rfl) ?_)
                      | with_reducible refine seg_fin ?_
                      | with_reducible refine seg_pan ?_
                      | with_reducible refine seg_both ?_ ?_
                      | with_reducible refine seg_case (fun x h => ?_) (fun h => ?_)
                      | with_reducible refine seg_gate (fun h => ?_) (fun h => ?_)
                      | with_reducible refine seg_need ?_ ?_
                      | with_reducible refine wp_assoc ?_ | with_reducible refine wp_skipS ?_ | with_reducible refine wp_retS ?_ | with_reducible refine wp_exitS ?_ | with_reducible refine wp_dropS (wp_eqT (by simp -dsimp -implicitDefEqProofs [h64]; rfl) ?_) | with_reducible refine wp_sealS (by simp -dsimp -implicitDefEqProofs [h64]; rfl) ?_ | with_reducible refine wp_seal (by simp -dsimp -implicitDefEqProofs [h64]; rfl) ?_ | with_reducible refine wp_closeS (by simp -dsimp -implicitDefEqProofs [h64]; rfl) ?_ | with_reducible refine wp_close (by simp -dsimp -implicitDefEqProofs [h64]; rfl) ?_ | with_reducible refine wp_conc_out ?_ | with_reducible refine wp_open_out ?_ | with_reducible refine wp_pack_out ?_ | with_reducible refine wp_blockS ?_ | with_reducible refine wp_skip' ?_ | with_reducible refine wp_ret' ?_ | with_reducible refine wp_exit' ?_ | with_reducible refine wp_drop (wp_eqT (by simp -dsimp -implicitDefEqProofs [h64]; rfl) ?_) | with_reducible refine wp_block' ?_
                      | with_reducible refine wp_condVS (by simp -dsimp -implicitDefEqProofs [h64]; rfl) ?_
                      | with_reducible refine wp_condV (by simp -dsimp -implicitDefEqProofs [h64]; rfl) ?_
                      | with_reducible refine cond_t ?_ | with_reducible refine cond_f ?_ | with_reducible refine cond_v (fun h => ?_) (fun h => ?_)
                      | with_reducible refine post_then ?_ | with_reducible refine post_thenE ?_ | with_reducible refine post_thenP ?_ | with_reducible refine post_blkP ?_ | with_reducible refine post_thenR ?_ | with_reducible refine post_blkN ?_ | with_reducible refine post_blkE ?_ | with_reducible refine post_blkF rfl ?_ | with_reducible refine post_blkR ?_
                      | with_reducible refine seg_eval (by simp -dsimp -implicitDefEqProofs [h64]; rfl) ?_
                  all_goals first
                    | omega
                    | exact ⟨j - 1, by omega, [], [0, 1], by simp, by simp, i + 1, withS hn w, l', tk ++ [⟨(w : Int), v⟩], bg.set w ⟨(w : Int), v⟩, _, by omega, by omega, by simp; omega, hg', hh', FB, .inr rfl, by simp, by simp⟩))
          · exact absurd hz hno
        · have FB := hfb
          rcases hgp with ⟨hno, _⟩ | ⟨_, he⟩
          · exact absurd hno hz
          rw [he] at hP
          have hz2 : ((putF s l ⟨(w : Int), v⟩).2 == (0 : Int)) = false := by simpa using hz
          have hz3 : ((putF s l ⟨(w : Int), v⟩).2 != (0 : Int)) = true := by simpa using hz
          have hcs : (w < 16 ∧ hasS hn w = true ∧ (putF s l ⟨(w : Int), v⟩).2 = 9) ∨ (w < 16 ∧ hasS hn w = false) ∨ 16 ≤ w := by
            by_cases h16 : w < 16
            · cases hc : hasS hn w
              · exact .inr (.inl ⟨h16, rfl⟩)
              · exact .inl ⟨h16, rfl, by rw [hag hc]⟩
            · exact .inr (.inr (by omega))
          clear hag hfp hhp hlw
          generalize (putF s l ⟨(w : Int), v⟩).2 = e at *
          rcases hcs with ⟨hw16, hnh, rfl⟩ | ⟨hw16, hnh⟩ | hw16
          · have hsh := shr_has (m := hn) hw16
            rw [hnh] at hsh
            have hd6 : decide ((w : Int) < 16) = true := by rw [decide_eq_true_eq]; omega
            have hd7 : decide (w < 16) = true := by simp [hw16]
            rcases hba with ⟨hl0, rfl⟩ | rfl
            all_goals (
              try (rw [hl0] at hP hS hC; simp only [List.map_nil] at hP hS hC)
              repeat' first
                  | with_reducible refine wp_regionS (seg_eval (by simp -dsimp -implicitDefEqProofs [zV_rest, avMk, cMk, hd, hd2, hd4, hd5, hd6, hd7, h64, hx, hvl, hP, hC, hS, hmt, hmp, hw16, hsh, hz2, hz3]; rfl) ?_)
                  | with_reducible refine wp_region (seg_eval (by simp -dsimp -implicitDefEqProofs [zV_rest, avMk, cMk, hd, hd2, hd4, hd5, hd6, hd7, h64, hx, hvl, hP, hC, hS, hmt, hmp, hw16, hsh, hz2, hz3]; rfl) ?_)
                  | with_reducible refine wp_drawsS (seg_eval (by simp -dsimp -implicitDefEqProofs [zV_rest, avMk, cMk, hd, hd2, hd4, hd5, hd6, hd7, h64, hx, hvl, hP, hC, hS, hmt, hmp, hw16, hsh, hz2, hz3]; rfl) ?_)
                  | with_reducible refine wp_draws (seg_eval (by simp -dsimp -implicitDefEqProofs [zV_rest, avMk, cMk, hd, hd2, hd4, hd5, hd6, hd7, h64, hx, hvl, hP, hC, hS, hmt, hmp, hw16, hsh, hz2, hz3]; rfl) ?_)
                  | with_reducible refine seg_fin ?_
                  | with_reducible refine seg_pan ?_
                  | with_reducible refine seg_both ?_ ?_
                  | with_reducible refine seg_case (fun x h => ?_) (fun h => ?_)
                  | with_reducible refine seg_gate (fun h => ?_) (fun h => ?_)
                  | with_reducible refine seg_need ?_ ?_
                  | with_reducible refine wp_assoc ?_ | with_reducible refine wp_skipS ?_ | with_reducible refine wp_retS ?_ | with_reducible refine wp_exitS ?_ | with_reducible refine wp_dropS (wp_eqT (by simp -dsimp -implicitDefEqProofs [zV_rest, avMk, cMk, hd, hd2, hd4, hd5, hd6, hd7, h64, hx, hvl, hP, hC, hS, hmt, hmp, hw16, hsh, hz2, hz3]; rfl) ?_) | with_reducible refine wp_sealS (by simp -dsimp -implicitDefEqProofs [zV_rest, avMk, cMk, hd, hd2, hd4, hd5, hd6, hd7, h64, hx, hvl, hP, hC, hS, hmt, hmp, hw16, hsh, hz2, hz3]; rfl) ?_ | with_reducible refine wp_seal (by simp -dsimp -implicitDefEqProofs [zV_rest, avMk, cMk, hd, hd2, hd4, hd5, hd6, hd7, h64, hx, hvl, hP, hC, hS, hmt, hmp, hw16, hsh, hz2, hz3]; rfl) ?_ | with_reducible refine wp_closeS (by simp -dsimp -implicitDefEqProofs [zV_rest, avMk, cMk, hd, hd2, hd4, hd5, hd6, hd7, h64, hx, hvl, hP, hC, hS, hmt, hmp, hw16, hsh, hz2, hz3]; rfl) ?_ | with_reducible refine wp_close (by simp -dsimp -implicitDefEqProofs [zV_rest, avMk, cMk, hd, hd2, hd4, hd5, hd6, hd7, h64, hx, hvl, hP, hC, hS, hmt, hmp, hw16, hsh, hz2, hz3]; rfl) ?_ | with_reducible refine wp_conc_out ?_ | with_reducible refine wp_open_out ?_ | with_reducible refine wp_pack_out ?_ | with_reducible refine wp_blockS ?_ | with_reducible refine wp_skip' ?_ | with_reducible refine wp_ret' ?_ | with_reducible refine wp_exit' ?_ | with_reducible refine wp_drop (wp_eqT (by simp -dsimp -implicitDefEqProofs [zV_rest, avMk, cMk, hd, hd2, hd4, hd5, hd6, hd7, h64, hx, hvl, hP, hC, hS, hmt, hmp, hw16, hsh, hz2, hz3]; rfl) ?_) | with_reducible refine wp_block' ?_
                  | with_reducible refine wp_condVS (by simp -dsimp -implicitDefEqProofs [zV_rest, avMk, cMk, hd, hd2, hd4, hd5, hd6, hd7, h64, hx, hvl, hP, hC, hS, hmt, hmp, hw16, hsh, hz2, hz3]; rfl) ?_
                  | with_reducible refine wp_condV (by simp -dsimp -implicitDefEqProofs [zV_rest, avMk, cMk, hd, hd2, hd4, hd5, hd6, hd7, h64, hx, hvl, hP, hC, hS, hmt, hmp, hw16, hsh, hz2, hz3]; rfl) ?_
                  | with_reducible refine cond_t ?_ | with_reducible refine cond_f ?_ | with_reducible refine cond_v (fun h => ?_) (fun h => ?_)
                  | with_reducible refine post_then ?_ | with_reducible refine post_thenE ?_ | with_reducible refine post_thenP ?_ | with_reducible refine post_blkP ?_ | with_reducible refine post_thenR ?_ | with_reducible refine post_blkN ?_ | with_reducible refine post_blkE ?_ | with_reducible refine post_blkF rfl ?_ | with_reducible refine post_blkR ?_
                  | with_reducible refine seg_eval (by simp -dsimp -implicitDefEqProofs [zV_rest, avMk, cMk, hd, hd2, hd4, hd5, hd6, hd7, h64, hx, hvl, hP, hC, hS, hmt, hmp, hw16, hsh, hz2, hz3]; rfl) ?_
              all_goals first
                | omega
                | skip
              all_goals (
                refine wp_loopE (fun ts mm => ts = [(1, .fsl 17 (ms.map avMk)), (5, .ptr 0 0 0), (6, .ptr 1 0 0), (7, .v (.int .u16 (hn : Nat))), (8, .v (.int .i64 i))] ∧ mm = [.var [.v (.int .u16 (s : Int)), .fsl 17 (l.map avMk)], .var (bigc bg)])
                  (fun j2 ts mm => ∃ k : Nat, k + j2 = l.length ∧ ts = [(1, .fsl 17 (ms.map avMk)), (5, .ptr 0 0 0), (6, .ptr 1 0 0), (7, .v (.int .u16 (hn : Nat))), (8, .v (.int .i64 i)), (80, .fsl 17 (l.map avMk)), (81, .v (.int .i64 l.length)), (82, .v (.int .i64 k))] ∧
                    mm = [.var [.v (.int .u16 (s : Int)), .fsl 17 (l.map avMk)], .var (bigc bg)]) l.length ?_ ?_ ?_
                · exact ⟨[], [0, 1], by simp, by simp, 0, by omega, by first | (simp; done) | (simp [hl0]; done), by first | (simp; done) | (simp [hl0]; done)⟩
                · rintro W hW j2 ts mm ⟨k, hk, rfl, rfl⟩
                  by_cases hlt2 : k < l.length
                  · have g1 : decide ((k : Int) < (l.length : Int)) = true := by rw [decide_eq_true_eq]; omega
                    have g2 : decide (k < l.length) = true := by simp [hlt2]
                    obtain ⟨y, hy⟩ : ∃ y, l[k]? = some y := ⟨_, List.getElem?_eq_getElem (by omega)⟩
                    have hyg := hg.2.2.1 y (List.mem_of_getElem? hy)
                    have hyb := FB.2.2 y (List.mem_of_getElem? hy)
                    have hy16 := has_lt hs hyg.1
                    have g64 : IntKind.wrap .i64 ((k : Int) + 1) = ((k + 1 : Nat) : Int) := by rw [IntWalk.i64_in _ (by omega)]; rfl
                    have hyw0 : 0 ≤ y.who := hyg.2.2.1
                    have hyl : y.past.length = 16 := hyg.2.2.2.2.1
                    obtain ⟨yw, yv⟩ := y
                    simp only at hyw0 hy16 hyb hyl
                    obtain ⟨yw, rfl⟩ := Int.eq_ofNat_of_zero_le hyw0
                    simp only [Int.toNat_natCast] at hy16 hyb
                    have gw : yw * 17 ≤ 255 := by omega
                    have gr : Int.tmod (yw : Int) 16 = (yw : Int) := Int.tmod_eq_of_lt (by omega) (by omega)
                    have gat := bigc_at' FB.2.1 hyb
                    have gbl := bigc_length FB.2.1
                    rw [FB.1] at gbl
                    have geq := eqCells_17 (k := (yw : Int)) (k' := (yw : Int)) hyl hyl
                    rw [eqV_self] at geq
                    repeat' first
                        | with_reducible refine wp_regionS (seg_eval (by simp -dsimp -implicitDefEqProofs [zV_rest, avMk, cMk, g1, g2, g64, hy, hyl, hy16, gw, gr, gat, gbl, geq]; rfl) ?_)
                        | with_reducible refine wp_region (seg_eval (by simp -dsimp -implicitDefEqProofs [zV_rest, avMk, cMk, g1, g2, g64, hy, hyl, hy16, gw, gr, gat, gbl, geq]; rfl) ?_)
                        | with_reducible refine wp_drawsS (seg_eval (by simp -dsimp -implicitDefEqProofs [zV_rest, avMk, cMk, g1, g2, g64, hy, hyl, hy16, gw, gr, gat, gbl, geq]; rfl) ?_)
                        | with_reducible refine wp_draws (seg_eval (by simp -dsimp -implicitDefEqProofs [zV_rest, avMk, cMk, g1, g2, g64, hy, hyl, hy16, gw, gr, gat, gbl, geq]; rfl) ?_)
                        | with_reducible refine seg_fin ?_
                        | with_reducible refine seg_pan ?_
                        | with_reducible refine seg_both ?_ ?_
                        | with_reducible refine seg_case (fun x h => ?_) (fun h => ?_)
                        | with_reducible refine seg_gate (fun h => ?_) (fun h => ?_)
                        | with_reducible refine seg_need ?_ ?_
                        | with_reducible refine wp_assoc ?_ | with_reducible refine wp_skipS ?_ | with_reducible refine wp_retS ?_ | with_reducible refine wp_exitS ?_ | with_reducible refine wp_dropS (wp_eqT (by simp -dsimp -implicitDefEqProofs [zV_rest, avMk, cMk, g1, g2, g64, hy, hyl, hy16, gw, gr, gat, gbl, geq]; rfl) ?_) | with_reducible refine wp_sealS (by simp -dsimp -implicitDefEqProofs [zV_rest, avMk, cMk, g1, g2, g64, hy, hyl, hy16, gw, gr, gat, gbl, geq]; rfl) ?_ | with_reducible refine wp_seal (by simp -dsimp -implicitDefEqProofs [zV_rest, avMk, cMk, g1, g2, g64, hy, hyl, hy16, gw, gr, gat, gbl, geq]; rfl) ?_ | with_reducible refine wp_closeS (by simp -dsimp -implicitDefEqProofs [zV_rest, avMk, cMk, g1, g2, g64, hy, hyl, hy16, gw, gr, gat, gbl, geq]; rfl) ?_ | with_reducible refine wp_close (by simp -dsimp -implicitDefEqProofs [zV_rest, avMk, cMk, g1, g2, g64, hy, hyl, hy16, gw, gr, gat, gbl, geq]; rfl) ?_ | with_reducible refine wp_conc_out ?_ | with_reducible refine wp_open_out ?_ | with_reducible refine wp_pack_out ?_ | with_reducible refine wp_blockS ?_ | with_reducible refine wp_skip' ?_ | with_reducible refine wp_ret' ?_ | with_reducible refine wp_exit' ?_ | with_reducible refine wp_drop (wp_eqT (by simp -dsimp -implicitDefEqProofs [zV_rest, avMk, cMk, g1, g2, g64, hy, hyl, hy16, gw, gr, gat, gbl, geq]; rfl) ?_) | with_reducible refine wp_block' ?_
                        | with_reducible refine wp_condVS (by simp -dsimp -implicitDefEqProofs [zV_rest, avMk, cMk, g1, g2, g64, hy, hyl, hy16, gw, gr, gat, gbl, geq]; rfl) ?_
                        | with_reducible refine wp_condV (by simp -dsimp -implicitDefEqProofs [zV_rest, avMk, cMk, g1, g2, g64, hy, hyl, hy16, gw, gr, gat, gbl, geq]; rfl) ?_
                        | with_reducible refine cond_t ?_ | with_reducible refine cond_f ?_ | with_reducible refine cond_v (fun h => ?_) (fun h => ?_)
                        | with_reducible refine post_then ?_ | with_reducible refine post_thenE ?_ | with_reducible refine post_thenP ?_ | with_reducible refine post_blkP ?_ | with_reducible refine post_thenR ?_ | with_reducible refine post_blkN ?_ | with_reducible refine post_blkE ?_ | with_reducible refine post_blkF rfl ?_ | with_reducible refine post_blkR ?_
                        | with_reducible refine seg_eval (by simp -dsimp -implicitDefEqProofs [zV_rest, avMk, cMk, g1, g2, g64, hy, hyl, hy16, gw, gr, gat, gbl, geq]; rfl) ?_
                    all_goals first
                      | omega
                      | exact ⟨j2 - 1, by omega, [], [0, 1], by simp, by simp, k + 1, by omega, by simp [avMk, cMk], by simp [avMk, cMk]⟩
                      | trace_state
                  · have g1 : decide ((k : Int) < (l.length : Int)) = false := by rw [decide_eq_false_iff_not]; omega
                    have g2 : decide (k < l.length) = false := by simp [hlt2]
                    repeat' first
                        | with_reducible refine wp_regionS (seg_eval (by simp -dsimp -implicitDefEqProofs [g1, g2]; rfl) ?_)
                        | with_reducible refine wp_region (seg_eval (by simp -dsimp -implicitDefEqProofs [g1, g2]; rfl) ?_)
                        | with_reducible refine wp_drawsS (seg_eval (by simp -dsimp -implicitDefEqProofs [g1, g2]; rfl) ?_)
                        | with_reducible refine wp_draws (seg_eval (by simp -dsimp -implicitDefEqProofs [g1, g2]; rfl) ?_)
                        | with_reducible refine seg_fin ?_
                        | with_reducible refine seg_pan ?_
                        | with_reducible refine seg_both ?_ ?_
                        | with_reducible refine seg_case (fun x h => ?_) (fun h => ?_)
                        | with_reducible refine seg_gate (fun h => ?_) (fun h => ?_)
                        | with_reducible refine seg_need ?_ ?_
                        | with_reducible refine wp_assoc ?_ | with_reducible refine wp_skipS ?_ | with_reducible refine wp_retS ?_ | with_reducible refine wp_exitS ?_ | with_reducible refine wp_dropS (wp_eqT (by simp -dsimp -implicitDefEqProofs [g1, g2]; rfl) ?_) | with_reducible refine wp_sealS (by simp -dsimp -implicitDefEqProofs [g1, g2]; rfl) ?_ | with_reducible refine wp_seal (by simp -dsimp -implicitDefEqProofs [g1, g2]; rfl) ?_ | with_reducible refine wp_closeS (by simp -dsimp -implicitDefEqProofs [g1, g2]; rfl) ?_ | with_reducible refine wp_close (by simp -dsimp -implicitDefEqProofs [g1, g2]; rfl) ?_ | with_reducible refine wp_conc_out ?_ | with_reducible refine wp_open_out ?_ | with_reducible refine wp_pack_out ?_ | with_reducible refine wp_blockS ?_ | with_reducible refine wp_skip' ?_ | with_reducible refine wp_ret' ?_ | with_reducible refine wp_exit' ?_ | with_reducible refine wp_drop (wp_eqT (by simp -dsimp -implicitDefEqProofs [g1, g2]; rfl) ?_) | with_reducible refine wp_block' ?_
                        | with_reducible refine wp_condVS (by simp -dsimp -implicitDefEqProofs [g1, g2]; rfl) ?_
                        | with_reducible refine wp_condV (by simp -dsimp -implicitDefEqProofs [g1, g2]; rfl) ?_
                        | with_reducible refine cond_t ?_ | with_reducible refine cond_f ?_ | with_reducible refine cond_v (fun h => ?_) (fun h => ?_)
                        | with_reducible refine post_then ?_ | with_reducible refine post_thenE ?_ | with_reducible refine post_thenP ?_ | with_reducible refine post_blkP ?_ | with_reducible refine post_thenR ?_ | with_reducible refine post_blkN ?_ | with_reducible refine post_blkE ?_ | with_reducible refine post_blkF rfl ?_ | with_reducible refine post_blkR ?_
                        | with_reducible refine seg_eval (by simp -dsimp -implicitDefEqProofs [g1, g2]; rfl) ?_
                    exact hW _ _ ⟨by simp, by simp⟩
                · rintro ts mm ⟨rfl, rfl⟩
                  repeat' first
                      | with_reducible refine wp_regionS (seg_eval (by simp -dsimp -implicitDefEqProofs [h64]; rfl) ?_)
                      | with_reducible refine wp_region (seg_eval (by simp -dsimp -implicitDefEqProofs [h64]; rfl) ?_)
                      | with_reducible refine wp_drawsS (seg_eval (by simp -dsimp -implicitDefEqProofs [h64]; rfl) ?_)
                      | with_reducible refine wp_draws (seg_eval (by simp -dsimp -implicitDefEqProofs [h64]; rfl) ?_)
                      | with_reducible refine seg_fin ?_
                      | with_reducible refine seg_pan ?_
                      | with_reducible refine seg_both ?_ ?_
                      | with_reducible refine seg_case (fun x h => ?_) (fun h => ?_)
                      | with_reducible refine seg_gate (fun h => ?_) (fun h => ?_)
                      | with_reducible refine seg_need ?_ ?_
                      | with_reducible refine wp_assoc ?_ | with_reducible refine wp_skipS ?_ | with_reducible refine wp_retS ?_ | with_reducible refine wp_exitS ?_ | with_reducible refine wp_dropS (wp_eqT (by simp -dsimp -implicitDefEqProofs [h64]; rfl) ?_) | with_reducible refine wp_sealS (by simp -dsimp -implicitDefEqProofs [h64]; rfl) ?_ | with_reducible refine wp_seal (by simp -dsimp -implicitDefEqProofs [h64]; rfl) ?_ | with_reducible refine wp_closeS (by simp -dsimp -implicitDefEqProofs [h64]; rfl) ?_ | with_reducible refine wp_close (by simp -dsimp -implicitDefEqProofs [h64]; rfl) ?_ | with_reducible refine wp_conc_out ?_ | with_reducible refine wp_open_out ?_ | with_reducible refine wp_pack_out ?_ | with_reducible refine wp_blockS ?_ | with_reducible refine wp_skip' ?_ | with_reducible refine wp_ret' ?_ | with_reducible refine wp_exit' ?_ | with_reducible refine wp_drop (wp_eqT (by simp -dsimp -implicitDefEqProofs [h64]; rfl) ?_) | with_reducible refine wp_block' ?_
                      | with_reducible refine wp_condVS (by simp -dsimp -implicitDefEqProofs [h64]; rfl) ?_
                      | with_reducible refine wp_condV (by simp -dsimp -implicitDefEqProofs [h64]; rfl) ?_
                      | with_reducible refine cond_t ?_ | with_reducible refine cond_f ?_ | with_reducible refine cond_v (fun h => ?_) (fun h => ?_)
                      | with_reducible refine post_then ?_ | with_reducible refine post_thenE ?_ | with_reducible refine post_thenP ?_ | with_reducible refine post_blkP ?_ | with_reducible refine post_thenR ?_ | with_reducible refine post_blkN ?_ | with_reducible refine post_blkE ?_ | with_reducible refine post_blkF rfl ?_ | with_reducible refine post_blkR ?_
                      | with_reducible refine seg_eval (by simp -dsimp -implicitDefEqProofs [h64]; rfl) ?_
                  all_goals first
                    | omega
                    | exact ⟨j - 1, by omega, [], [0, 1], by simp, by simp, i + 1, hn, l, tk, bg, _, by omega, by omega, by omega, hg, hh, hfb, .inr rfl, by simp, by simp⟩))
          · have hsh := shr_has (m := hn) hw16
            rw [hnh] at hsh
            have hd6 : decide ((w : Int) < 16) = true := by rw [decide_eq_true_eq]; omega
            have hd7 : decide (w < 16) = true := by simp [hw16]
            rcases hba with ⟨hl0, rfl⟩ | rfl
            all_goals (
              try (rw [hl0] at hP hS hC; simp only [List.map_nil] at hP hS hC)
              repeat' first
                  | with_reducible refine wp_regionS (seg_eval (by simp -dsimp -implicitDefEqProofs [zV_rest, avMk, cMk, hd, hd2, hd4, hd5, hd6, hd7, h64, hx, hvl, hP, hC, hS, hmt, hmp, hw16, hsh, hz2, hz3]; rfl) ?_)
                  | with_reducible refine wp_region (seg_eval (by simp -dsimp -implicitDefEqProofs [zV_rest, avMk, cMk, hd, hd2, hd4, hd5, hd6, hd7, h64, hx, hvl, hP, hC, hS, hmt, hmp, hw16, hsh, hz2, hz3]; rfl) ?_)
                  | with_reducible refine wp_drawsS (seg_eval (by simp -dsimp -implicitDefEqProofs [zV_rest, avMk, cMk, hd, hd2, hd4, hd5, hd6, hd7, h64, hx, hvl, hP, hC, hS, hmt, hmp, hw16, hsh, hz2, hz3]; rfl) ?_)
                  | with_reducible refine wp_draws (seg_eval (by simp -dsimp -implicitDefEqProofs [zV_rest, avMk, cMk, hd, hd2, hd4, hd5, hd6, hd7, h64, hx, hvl, hP, hC, hS, hmt, hmp, hw16, hsh, hz2, hz3]; rfl) ?_)
                  | with_reducible refine seg_fin ?_
                  | with_reducible refine seg_pan ?_
                  | with_reducible refine seg_both ?_ ?_
                  | with_reducible refine seg_case (fun x h => ?_) (fun h => ?_)
                  | with_reducible refine seg_gate (fun h => ?_) (fun h => ?_)
                  | with_reducible refine seg_need ?_ ?_
                  | with_reducible refine wp_assoc ?_ | with_reducible refine wp_skipS ?_ | with_reducible refine wp_retS ?_ | with_reducible refine wp_exitS ?_ | with_reducible refine wp_dropS (wp_eqT (by simp -dsimp -implicitDefEqProofs [zV_rest, avMk, cMk, hd, hd2, hd4, hd5, hd6, hd7, h64, hx, hvl, hP, hC, hS, hmt, hmp, hw16, hsh, hz2, hz3]; rfl) ?_) | with_reducible refine wp_sealS (by simp -dsimp -implicitDefEqProofs [zV_rest, avMk, cMk, hd, hd2, hd4, hd5, hd6, hd7, h64, hx, hvl, hP, hC, hS, hmt, hmp, hw16, hsh, hz2, hz3]; rfl) ?_ | with_reducible refine wp_seal (by simp -dsimp -implicitDefEqProofs [zV_rest, avMk, cMk, hd, hd2, hd4, hd5, hd6, hd7, h64, hx, hvl, hP, hC, hS, hmt, hmp, hw16, hsh, hz2, hz3]; rfl) ?_ | with_reducible refine wp_closeS (by simp -dsimp -implicitDefEqProofs [zV_rest, avMk, cMk, hd, hd2, hd4, hd5, hd6, hd7, h64, hx, hvl, hP, hC, hS, hmt, hmp, hw16, hsh, hz2, hz3]; rfl) ?_ | with_reducible refine wp_close (by simp -dsimp -implicitDefEqProofs [zV_rest, avMk, cMk, hd, hd2, hd4, hd5, hd6, hd7, h64, hx, hvl, hP, hC, hS, hmt, hmp, hw16, hsh, hz2, hz3]; rfl) ?_ | with_reducible refine wp_conc_out ?_ | with_reducible refine wp_open_out ?_ | with_reducible refine wp_pack_out ?_ | with_reducible refine wp_blockS ?_ | with_reducible refine wp_skip' ?_ | with_reducible refine wp_ret' ?_ | with_reducible refine wp_exit' ?_ | with_reducible refine wp_drop (wp_eqT (by simp -dsimp -implicitDefEqProofs [zV_rest, avMk, cMk, hd, hd2, hd4, hd5, hd6, hd7, h64, hx, hvl, hP, hC, hS, hmt, hmp, hw16, hsh, hz2, hz3]; rfl) ?_) | with_reducible refine wp_block' ?_
                  | with_reducible refine wp_condVS (by simp -dsimp -implicitDefEqProofs [zV_rest, avMk, cMk, hd, hd2, hd4, hd5, hd6, hd7, h64, hx, hvl, hP, hC, hS, hmt, hmp, hw16, hsh, hz2, hz3]; rfl) ?_
                  | with_reducible refine wp_condV (by simp -dsimp -implicitDefEqProofs [zV_rest, avMk, cMk, hd, hd2, hd4, hd5, hd6, hd7, h64, hx, hvl, hP, hC, hS, hmt, hmp, hw16, hsh, hz2, hz3]; rfl) ?_
                  | with_reducible refine cond_t ?_ | with_reducible refine cond_f ?_ | with_reducible refine cond_v (fun h => ?_) (fun h => ?_)
                  | with_reducible refine post_then ?_ | with_reducible refine post_thenE ?_ | with_reducible refine post_thenP ?_ | with_reducible refine post_blkP ?_ | with_reducible refine post_thenR ?_ | with_reducible refine post_blkN ?_ | with_reducible refine post_blkE ?_ | with_reducible refine post_blkF rfl ?_ | with_reducible refine post_blkR ?_
                  | with_reducible refine seg_eval (by simp -dsimp -implicitDefEqProofs [zV_rest, avMk, cMk, hd, hd2, hd4, hd5, hd6, hd7, h64, hx, hvl, hP, hC, hS, hmt, hmp, hw16, hsh, hz2, hz3]; rfl) ?_
              all_goals first
                | omega
                | skip
              all_goals (
                refine wp_loopE (fun ts mm => ts = [(1, .fsl 17 (ms.map avMk)), (5, .ptr 0 0 0), (6, .ptr 1 0 0), (7, .v (.int .u16 (hn : Nat))), (8, .v (.int .i64 i))] ∧ mm = [.var [.v (.int .u16 (s : Int)), .fsl 17 (l.map avMk)], .var (bigc bg)])
                  (fun j2 ts mm => ∃ k : Nat, k + j2 = l.length ∧ ts = [(1, .fsl 17 (ms.map avMk)), (5, .ptr 0 0 0), (6, .ptr 1 0 0), (7, .v (.int .u16 (hn : Nat))), (8, .v (.int .i64 i)), (80, .fsl 17 (l.map avMk)), (81, .v (.int .i64 l.length)), (82, .v (.int .i64 k))] ∧
                    mm = [.var [.v (.int .u16 (s : Int)), .fsl 17 (l.map avMk)], .var (bigc bg)]) l.length ?_ ?_ ?_
                · exact ⟨[], [0, 1], by simp, by simp, 0, by omega, by first | (simp; done) | (simp [hl0]; done), by first | (simp; done) | (simp [hl0]; done)⟩
                · rintro W hW j2 ts mm ⟨k, hk, rfl, rfl⟩
                  by_cases hlt2 : k < l.length
                  · have g1 : decide ((k : Int) < (l.length : Int)) = true := by rw [decide_eq_true_eq]; omega
                    have g2 : decide (k < l.length) = true := by simp [hlt2]
                    obtain ⟨y, hy⟩ : ∃ y, l[k]? = some y := ⟨_, List.getElem?_eq_getElem (by omega)⟩
                    have hyg := hg.2.2.1 y (List.mem_of_getElem? hy)
                    have hyb := FB.2.2 y (List.mem_of_getElem? hy)
                    have hy16 := has_lt hs hyg.1
                    have g64 : IntKind.wrap .i64 ((k : Int) + 1) = ((k + 1 : Nat) : Int) := by rw [IntWalk.i64_in _ (by omega)]; rfl
                    have hyw0 : 0 ≤ y.who := hyg.2.2.1
                    have hyl : y.past.length = 16 := hyg.2.2.2.2.1
                    obtain ⟨yw, yv⟩ := y
                    simp only at hyw0 hy16 hyb hyl
                    obtain ⟨yw, rfl⟩ := Int.eq_ofNat_of_zero_le hyw0
                    simp only [Int.toNat_natCast] at hy16 hyb
                    have gw : yw * 17 ≤ 255 := by omega
                    have gr : Int.tmod (yw : Int) 16 = (yw : Int) := Int.tmod_eq_of_lt (by omega) (by omega)
                    have gat := bigc_at' FB.2.1 hyb
                    have gbl := bigc_length FB.2.1
                    rw [FB.1] at gbl
                    have geq := eqCells_17 (k := (yw : Int)) (k' := (yw : Int)) hyl hyl
                    rw [eqV_self] at geq
                    repeat' first
                        | with_reducible refine wp_regionS (seg_eval (by simp -dsimp -implicitDefEqProofs [zV_rest, avMk, cMk, g1, g2, g64, hy, hyl, hy16, gw, gr, gat, gbl, geq]; rfl) ?_)
                        | with_reducible refine wp_region (seg_eval (by simp -dsimp -implicitDefEqProofs [zV_rest, avMk, cMk, g1, g2, g64, hy, hyl, hy16, gw, gr, gat, gbl, geq]; rfl) ?_)
                        | with_reducible refine wp_drawsS (seg_eval (by simp -dsimp -implicitDefEqProofs [zV_rest, avMk, cMk, g1, g2, g64, hy, hyl, hy16, gw, gr, gat, gbl, geq]; rfl) ?_)
                        | with_reducible refine wp_draws (seg_eval (by simp -dsimp -implicitDefEqProofs [zV_rest, avMk, cMk, g1, g2, g64, hy, hyl, hy16, gw, gr, gat, gbl, geq]; rfl) ?_)
                        | with_reducible refine seg_fin ?_
                        | with_reducible refine seg_pan ?_
                        | with_reducible refine seg_both ?_ ?_
                        | with_reducible refine seg_case (fun x h => ?_) (fun h => ?_)
                        | with_reducible refine seg_gate (fun h => ?_) (fun h => ?_)
                        | with_reducible refine seg_need ?_ ?_
                        | with_reducible refine wp_assoc ?_ | with_reducible refine wp_skipS ?_ | with_reducible refine wp_retS ?_ | with_reducible refine wp_exitS ?_ | with_reducible refine wp_dropS (wp_eqT (by simp -dsimp -implicitDefEqProofs [zV_rest, avMk, cMk, g1, g2, g64, hy, hyl, hy16, gw, gr, gat, gbl, geq]; rfl) ?_) | with_reducible refine wp_sealS (by simp -dsimp -implicitDefEqProofs [zV_rest, avMk, cMk, g1, g2, g64, hy, hyl, hy16, gw, gr, gat, gbl, geq]; rfl) ?_ | with_reducible refine wp_seal (by simp -dsimp -implicitDefEqProofs [zV_rest, avMk, cMk, g1, g2, g64, hy, hyl, hy16, gw, gr, gat, gbl, geq]; rfl) ?_ | with_reducible refine wp_closeS (by simp -dsimp -implicitDefEqProofs [zV_rest, avMk, cMk, g1, g2, g64, hy, hyl, hy16, gw, gr, gat, gbl, geq]; rfl) ?_ | with_reducible refine wp_close (by simp -dsimp -implicitDefEqProofs [zV_rest, avMk, cMk, g1, g2, g64, hy, hyl, hy16, gw, gr, gat, gbl, geq]; rfl) ?_ | with_reducible refine wp_conc_out ?_ | with_reducible refine wp_open_out ?_ | with_reducible refine wp_pack_out ?_ | with_reducible refine wp_blockS ?_ | with_reducible refine wp_skip' ?_ | with_reducible refine wp_ret' ?_ | with_reducible refine wp_exit' ?_ | with_reducible refine wp_drop (wp_eqT (by simp -dsimp -implicitDefEqProofs [zV_rest, avMk, cMk, g1, g2, g64, hy, hyl, hy16, gw, gr, gat, gbl, geq]; rfl) ?_) | with_reducible refine wp_block' ?_
                        | with_reducible refine wp_condVS (by simp -dsimp -implicitDefEqProofs [zV_rest, avMk, cMk, g1, g2, g64, hy, hyl, hy16, gw, gr, gat, gbl, geq]; rfl) ?_
                        | with_reducible refine wp_condV (by simp -dsimp -implicitDefEqProofs [zV_rest, avMk, cMk, g1, g2, g64, hy, hyl, hy16, gw, gr, gat, gbl, geq]; rfl) ?_
                        | with_reducible refine cond_t ?_ | with_reducible refine cond_f ?_ | with_reducible refine cond_v (fun h => ?_) (fun h => ?_)
                        | with_reducible refine post_then ?_ | with_reducible refine post_thenE ?_ | with_reducible refine post_thenP ?_ | with_reducible refine post_blkP ?_ | with_reducible refine post_thenR ?_ | with_reducible refine post_blkN ?_ | with_reducible refine post_blkE ?_ | with_reducible refine post_blkF rfl ?_ | with_reducible refine post_blkR ?_
                        | with_reducible refine seg_eval (by simp -dsimp -implicitDefEqProofs [zV_rest, avMk, cMk, g1, g2, g64, hy, hyl, hy16, gw, gr, gat, gbl, geq]; rfl) ?_
                    all_goals first
                      | omega
                      | exact ⟨j2 - 1, by omega, [], [0, 1], by simp, by simp, k + 1, by omega, by simp [avMk, cMk], by simp [avMk, cMk]⟩
                      | trace_state
                  · have g1 : decide ((k : Int) < (l.length : Int)) = false := by rw [decide_eq_false_iff_not]; omega
                    have g2 : decide (k < l.length) = false := by simp [hlt2]
                    repeat' first
                        | with_reducible refine wp_regionS (seg_eval (by simp -dsimp -implicitDefEqProofs [g1, g2]; rfl) ?_)
                        | with_reducible refine wp_region (seg_eval (by simp -dsimp -implicitDefEqProofs [g1, g2]; rfl) ?_)
                        | with_reducible refine wp_drawsS (seg_eval (by simp -dsimp -implicitDefEqProofs [g1, g2]; rfl) ?_)
                        | with_reducible refine wp_draws (seg_eval (by simp -dsimp -implicitDefEqProofs [g1, g2]; rfl) ?_)
                        | with_reducible refine seg_fin ?_
                        | with_reducible refine seg_pan ?_
                        | with_reducible refine seg_both ?_ ?_
                        | with_reducible refine seg_case (fun x h => ?_) (fun h => ?_)
                        | with_reducible refine seg_gate (fun h => ?_) (fun h => ?_)
                        | with_reducible refine seg_need ?_ ?_
                        | with_reducible refine wp_assoc ?_ | with_reducible refine wp_skipS ?_ | with_reducible refine wp_retS ?_ | with_reducible refine wp_exitS ?_ | with_reducible refine wp_dropS (wp_eqT (by simp -dsimp -implicitDefEqProofs [g1, g2]; rfl) ?_) | with_reducible refine wp_sealS (by simp -dsimp -implicitDefEqProofs [g1, g2]; rfl) ?_ | with_reducible refine wp_seal (by simp -dsimp -implicitDefEqProofs [g1, g2]; rfl) ?_ | with_reducible refine wp_closeS (by simp -dsimp -implicitDefEqProofs [g1, g2]; rfl) ?_ | with_reducible refine wp_close (by simp -dsimp -implicitDefEqProofs [g1, g2]; rfl) ?_ | with_reducible refine wp_conc_out ?_ | with_reducible refine wp_open_out ?_ | with_reducible refine wp_pack_out ?_ | with_reducible refine wp_blockS ?_ | with_reducible refine wp_skip' ?_ | with_reducible refine wp_ret' ?_ | with_reducible refine wp_exit' ?_ | with_reducible refine wp_drop (wp_eqT (by simp -dsimp -implicitDefEqProofs [g1, g2]; rfl) ?_) | with_reducible refine wp_block' ?_
                        | with_reducible refine wp_condVS (by simp -dsimp -implicitDefEqProofs [g1, g2]; rfl) ?_
                        | with_reducible refine wp_condV (by simp -dsimp -implicitDefEqProofs [g1, g2]; rfl) ?_
                        | with_reducible refine cond_t ?_ | with_reducible refine cond_f ?_ | with_reducible refine cond_v (fun h => ?_) (fun h => ?_)
                        | with_reducible refine post_then ?_ | with_reducible refine post_thenE ?_ | with_reducible refine post_thenP ?_ | with_reducible refine post_blkP ?_ | with_reducible refine post_thenR ?_ | with_reducible refine post_blkN ?_ | with_reducible refine post_blkE ?_ | with_reducible refine post_blkF rfl ?_ | with_reducible refine post_blkR ?_
                        | with_reducible refine seg_eval (by simp -dsimp -implicitDefEqProofs [g1, g2]; rfl) ?_
                    exact hW _ _ ⟨by simp, by simp⟩
                · rintro ts mm ⟨rfl, rfl⟩
                  repeat' first
                      | with_reducible refine wp_regionS (seg_eval (by simp -dsimp -implicitDefEqProofs [h64]; rfl) ?_)
                      | with_reducible refine wp_region (seg_eval (by simp -dsimp -implicitDefEqProofs [h64]; rfl) ?_)
                      | with_reducible refine wp_drawsS (seg_eval (by simp -dsimp -implicitDefEqProofs [h64]; rfl) ?_)
                      | with_reducible refine wp_draws (seg_eval (by simp -dsimp -implicitDefEqProofs [h64]; rfl) ?_)
                      | with_reducible refine seg_fin ?_
                      | with_reducible refine seg_pan ?_
                      | with_reducible refine seg_both ?_ ?_
                      | with_reducible refine seg_case (fun x h => ?_) (fun h => ?_)
                      | with_reducible refine seg_gate (fun h => ?_) (fun h => ?_)
                      | with_reducible refine seg_need ?_ ?_
                      | with_reducible refine wp_assoc ?_ | with_reducible refine wp_skipS ?_ | with_reducible refine wp_retS ?_ | with_reducible refine wp_exitS ?_ | with_reducible refine wp_dropS (wp_eqT (by simp -dsimp -implicitDefEqProofs [h64]; rfl) ?_) | with_reducible refine wp_sealS (by simp -dsimp -implicitDefEqProofs [h64]; rfl) ?_ | with_reducible refine wp_seal (by simp -dsimp -implicitDefEqProofs [h64]; rfl) ?_ | with_reducible refine wp_closeS (by simp -dsimp -implicitDefEqProofs [h64]; rfl) ?_ | with_reducible refine wp_close (by simp -dsimp -implicitDefEqProofs [h64]; rfl) ?_ | with_reducible refine wp_conc_out ?_ | with_reducible refine wp_open_out ?_ | with_reducible refine wp_pack_out ?_ | with_reducible refine wp_blockS ?_ | with_reducible refine wp_skip' ?_ | with_reducible refine wp_ret' ?_ | with_reducible refine wp_exit' ?_ | with_reducible refine wp_drop (wp_eqT (by simp -dsimp -implicitDefEqProofs [h64]; rfl) ?_) | with_reducible refine wp_block' ?_
                      | with_reducible refine wp_condVS (by simp -dsimp -implicitDefEqProofs [h64]; rfl) ?_
                      | with_reducible refine wp_condV (by simp -dsimp -implicitDefEqProofs [h64]; rfl) ?_
                      | with_reducible refine cond_t ?_ | with_reducible refine cond_f ?_ | with_reducible refine cond_v (fun h => ?_) (fun h => ?_)
                      | with_reducible refine post_then ?_ | with_reducible refine post_thenE ?_ | with_reducible refine post_thenP ?_ | with_reducible refine post_blkP ?_ | with_reducible refine post_thenR ?_ | with_reducible refine post_blkN ?_ | with_reducible refine post_blkE ?_ | with_reducible refine post_blkF rfl ?_ | with_reducible refine post_blkR ?_
                      | with_reducible refine seg_eval (by simp -dsimp -implicitDefEqProofs [h64]; rfl) ?_
                  all_goals first
                    | omega
                    | exact ⟨j - 1, by omega, [], [0, 1], by simp, by simp, i + 1, hn, l, tk, bg, _, by omega, by omega, by omega, hg, hh, hfb, .inr rfl, by simp, by simp⟩))
          · have hd6 : decide ((w : Int) < 16) = false := by rw [decide_eq_false_iff_not]; omega
            have hd7 : decide (w < 16) = false := by simp; omega
            rcases hba with ⟨hl0, rfl⟩ | rfl
            all_goals (
              try (rw [hl0] at hP hS hC; simp only [List.map_nil] at hP hS hC)
              repeat' first
                  | with_reducible refine wp_regionS (seg_eval (by simp -dsimp -implicitDefEqProofs [zV_rest, avMk, cMk, hd, hd2, hd4, hd5, hd6, hd7, h64, hx, hvl, hP, hC, hS, hmt, hmp, hz2, hz3]; rfl) ?_)
                  | with_reducible refine wp_region (seg_eval (by simp -dsimp -implicitDefEqProofs [zV_rest, avMk, cMk, hd, hd2, hd4, hd5, hd6, hd7, h64, hx, hvl, hP, hC, hS, hmt, hmp, hz2, hz3]; rfl) ?_)
                  | with_reducible refine wp_drawsS (seg_eval (by simp -dsimp -implicitDefEqProofs [zV_rest, avMk, cMk, hd, hd2, hd4, hd5, hd6, hd7, h64, hx, hvl, hP, hC, hS, hmt, hmp, hz2, hz3]; rfl) ?_)
                  | with_reducible refine wp_draws (seg_eval (by simp -dsimp -implicitDefEqProofs [zV_rest, avMk, cMk, hd, hd2, hd4, hd5, hd6, hd7, h64, hx, hvl, hP, hC, hS, hmt, hmp, hz2, hz3]; rfl) ?_)
                  | with_reducible refine seg_fin ?_
                  | with_reducible refine seg_pan ?_
                  | with_reducible refine seg_both ?_ ?_
                  | with_reducible refine seg_case (fun x h => ?_) (fun h => ?_)
                  | with_reducible refine seg_gate (fun h => ?_) (fun h => ?_)
                  | with_reducible refine seg_need ?_ ?_
                  | with_reducible refine wp_assoc ?_ | with_reducible refine wp_skipS ?_ | with_reducible refine wp_retS ?_ | with_reducible refine wp_exitS ?_ | with_reducible refine wp_dropS (wp_eqT (by simp -dsimp -implicitDefEqProofs [zV_rest, avMk, cMk, hd, hd2, hd4, hd5, hd6, hd7, h64, hx, hvl, hP, hC, hS, hmt, hmp, hz2, hz3]; rfl) ?_) | with_reducible refine wp_sealS (by simp -dsimp -implicitDefEqProofs [zV_rest, avMk, cMk, hd, hd2, hd4, hd5, hd6, hd7, h64, hx, hvl, hP, hC, hS, hmt, hmp, hz2, hz3]; rfl) ?_ | with_reducible refine wp_seal (by simp -dsimp -implicitDefEqProofs [zV_rest, avMk, cMk, hd, hd2, hd4, hd5, hd6, hd7, h64, hx, hvl, hP, hC, hS, hmt, hmp, hz2, hz3]; rfl) ?_ | with_reducible refine wp_closeS (by simp -dsimp -implicitDefEqProofs [zV_rest, avMk, cMk, hd, hd2, hd4, hd5, hd6, hd7, h64, hx, hvl, hP, hC, hS, hmt, hmp, hz2, hz3]; rfl) ?_ | with_reducible refine wp_close (by simp -dsimp -implicitDefEqProofs [zV_rest, avMk, cMk, hd, hd2, hd4, hd5, hd6, hd7, h64, hx, hvl, hP, hC, hS, hmt, hmp, hz2, hz3]; rfl) ?_ | with_reducible refine wp_conc_out ?_ | with_reducible refine wp_open_out ?_ | with_reducible refine wp_pack_out ?_ | with_reducible refine wp_blockS ?_ | with_reducible refine wp_skip' ?_ | with_reducible refine wp_ret' ?_ | with_reducible refine wp_exit' ?_ | with_reducible refine wp_drop (wp_eqT (by simp -dsimp -implicitDefEqProofs [zV_rest, avMk, cMk, hd, hd2, hd4, hd5, hd6, hd7, h64, hx, hvl, hP, hC, hS, hmt, hmp, hz2, hz3]; rfl) ?_) | with_reducible refine wp_block' ?_
                  | with_reducible refine wp_condVS (by simp -dsimp -implicitDefEqProofs [zV_rest, avMk, cMk, hd, hd2, hd4, hd5, hd6, hd7, h64, hx, hvl, hP, hC, hS, hmt, hmp, hz2, hz3]; rfl) ?_
                  | with_reducible refine wp_condV (by simp -dsimp -implicitDefEqProofs [zV_rest, avMk, cMk, hd, hd2, hd4, hd5, hd6, hd7, h64, hx, hvl, hP, hC, hS, hmt, hmp, hz2, hz3]; rfl) ?_
                  | with_reducible refine cond_t ?_ | with_reducible refine cond_f ?_ | with_reducible refine cond_v (fun h => ?_) (fun h => ?_)
                  | with_reducible refine post_then ?_ | with_reducible refine post_thenE ?_ | with_reducible refine post_thenP ?_ | with_reducible refine post_blkP ?_ | with_reducible refine post_thenR ?_ | with_reducible refine post_blkN ?_ | with_reducible refine post_blkE ?_ | with_reducible refine post_blkF rfl ?_ | with_reducible refine post_blkR ?_
                  | with_reducible refine seg_eval (by simp -dsimp -implicitDefEqProofs [zV_rest, avMk, cMk, hd, hd2, hd4, hd5, hd6, hd7, h64, hx, hvl, hP, hC, hS, hmt, hmp, hz2, hz3]; rfl) ?_
              all_goals first
                | omega
                | skip
              all_goals (
                refine wp_loopE (fun ts mm => ts = [(1, .fsl 17 (ms.map avMk)), (5, .ptr 0 0 0), (6, .ptr 1 0 0), (7, .v (.int .u16 (hn : Nat))), (8, .v (.int .i64 i))] ∧ mm = [.var [.v (.int .u16 (s : Int)), .fsl 17 (l.map avMk)], .var (bigc bg)])
                  (fun j2 ts mm => ∃ k : Nat, k + j2 = l.length ∧ ts = [(1, .fsl 17 (ms.map avMk)), (5, .ptr 0 0 0), (6, .ptr 1 0 0), (7, .v (.int .u16 (hn : Nat))), (8, .v (.int .i64 i)), (80, .fsl 17 (l.map avMk)), (81, .v (.int .i64 l.length)), (82, .v (.int .i64 k))] ∧
                    mm = [.var [.v (.int .u16 (s : Int)), .fsl 17 (l.map avMk)], .var (bigc bg)]) l.length ?_ ?_ ?_
                · exact ⟨[], [0, 1], by simp, by simp, 0, by omega, by first | (simp; done) | (simp [hl0]; done), by first | (simp; done) | (simp [hl0]; done)⟩
                · rintro W hW j2 ts mm ⟨k, hk, rfl, rfl⟩
                  by_cases hlt2 : k < l.length
                  · have g1 : decide ((k : Int) < (l.length : Int)) = true := by rw [decide_eq_true_eq]; omega
                    have g2 : decide (k < l.length) = true := by simp [hlt2]
                    obtain ⟨y, hy⟩ : ∃ y, l[k]? = some y := ⟨_, List.getElem?_eq_getElem (by omega)⟩
                    have hyg := hg.2.2.1 y (List.mem_of_getElem? hy)
                    have hyb := FB.2.2 y (List.mem_of_getElem? hy)
                    have hy16 := has_lt hs hyg.1
                    have g64 : IntKind.wrap .i64 ((k : Int) + 1) = ((k + 1 : Nat) : Int) := by rw [IntWalk.i64_in _ (by omega)]; rfl
                    have hyw0 : 0 ≤ y.who := hyg.2.2.1
                    have hyl : y.past.length = 16 := hyg.2.2.2.2.1
                    obtain ⟨yw, yv⟩ := y
                    simp only at hyw0 hy16 hyb hyl
                    obtain ⟨yw, rfl⟩ := Int.eq_ofNat_of_zero_le hyw0
                    simp only [Int.toNat_natCast] at hy16 hyb
                    have gw : yw * 17 ≤ 255 := by omega
                    have gr : Int.tmod (yw : Int) 16 = (yw : Int) := Int.tmod_eq_of_lt (by omega) (by omega)
                    have gat := bigc_at' FB.2.1 hyb
                    have gbl := bigc_length FB.2.1
                    rw [FB.1] at gbl
                    have geq := eqCells_17 (k := (yw : Int)) (k' := (yw : Int)) hyl hyl
                    rw [eqV_self] at geq
                    repeat' first
                        | with_reducible refine wp_regionS (seg_eval (by simp -dsimp -implicitDefEqProofs [zV_rest, avMk, cMk, g1, g2, g64, hy, hyl, hy16, gw, gr, gat, gbl, geq]; rfl) ?_)
                        | with_reducible refine wp_region (seg_eval (by simp -dsimp -implicitDefEqProofs [zV_rest, avMk, cMk, g1, g2, g64, hy, hyl, hy16, gw, gr, gat, gbl, geq]; rfl) ?_)
                        | with_reducible refine wp_drawsS (seg_eval (by simp -dsimp -implicitDefEqProofs [zV_rest, avMk, cMk, g1, g2, g64, hy, hyl, hy16, gw, gr, gat, gbl, geq]; rfl) ?_)
                        | with_reducible refine wp_draws (seg_eval (by simp -dsimp -implicitDefEqProofs [zV_rest, avMk, cMk, g1, g2, g64, hy, hyl, hy16, gw, gr, gat, gbl, geq]; rfl) ?_)
                        | with_reducible refine seg_fin ?_
                        | with_reducible refine seg_pan ?_
                        | with_reducible refine seg_both ?_ ?_
                        | with_reducible refine seg_case (fun x h => ?_) (fun h => ?_)
                        | with_reducible refine seg_gate (fun h => ?_) (fun h => ?_)
                        | with_reducible refine seg_need ?_ ?_
                        | with_reducible refine wp_assoc ?_ | with_reducible refine wp_skipS ?_ | with_reducible refine wp_retS ?_ | with_reducible refine wp_exitS ?_ | with_reducible refine wp_dropS (wp_eqT (by simp -dsimp -implicitDefEqProofs [zV_rest, avMk, cMk, g1, g2, g64, hy, hyl, hy16, gw, gr, gat, gbl, geq]; rfl) ?_) | with_reducible refine wp_sealS (by simp -dsimp -implicitDefEqProofs [zV_rest, avMk, cMk, g1, g2, g64, hy, hyl, hy16, gw, gr, gat, gbl, geq]; rfl) ?_ | with_reducible refine wp_seal (by simp -dsimp -implicitDefEqProofs [zV_rest, avMk, cMk, g1, g2, g64, hy, hyl, hy16, gw, gr, gat, gbl, geq]; rfl) ?_ | with_reducible refine wp_closeS (by simp -dsimp -implicitDefEqProofs [zV_rest, avMk, cMk, g1, g2, g64, hy, hyl, hy16, gw, gr, gat, gbl, geq]; rfl) ?_ | with_reducible refine wp_close (by simp -dsimp -implicitDefEqProofs [zV_rest, avMk, cMk, g1, g2, g64, hy, hyl, hy16, gw, gr, gat, gbl, geq]; rfl) ?_ | with_reducible refine wp_conc_out ?_ | with_reducible refine wp_open_out ?_ | with_reducible refine wp_pack_out ?_ | with_reducible refine wp_blockS ?_ | with_reducible refine wp_skip' ?_ | with_reducible refine wp_ret' ?_ | with_reducible refine wp_exit' ?_ | with_reducible refine wp_drop (wp_eqT (by simp -dsimp -implicitDefEqProofs [zV_rest, avMk, cMk, g1, g2, g64, hy, hyl, hy16, gw, gr, gat, gbl, geq]; rfl) ?_) | with_reducible refine wp_block' ?_
                        | with_reducible refine wp_condVS (by simp -dsimp -implicitDefEqProofs [zV_rest, avMk, cMk, g1, g2, g64, hy, hyl, hy16, gw, gr, gat, gbl, geq]; rfl) ?_
                        | with_reducible refine wp_condV (by simp -dsimp -implicitDefEqProofs [zV_rest, avMk, cMk, g1, g2, g64, hy, hyl, hy16, gw, gr, gat, gbl, geq]; rfl) ?_
                        | with_reducible refine cond_t ?_ | with_reducible refine cond_f ?_ | with_reducible refine cond_v (fun h => ?_) (fun h => ?_)
                        | with_reducible refine post_then ?_ | with_reducible refine post_thenE ?_ | with_reducible refine post_thenP ?_ | with_reducible refine post_blkP ?_ | with_reducible refine post_thenR ?_ | with_reducible refine post_blkN ?_ | with_reducible refine post_blkE ?_ | with_reducible refine post_blkF rfl ?_ | with_reducible refine post_blkR ?_
                        | with_reducible refine seg_eval (by simp -dsimp -implicitDefEqProofs [zV_rest, avMk, cMk, g1, g2, g64, hy, hyl, hy16, gw, gr, gat, gbl, geq]; rfl) ?_
                    all_goals first
                      | omega
                      | exact ⟨j2 - 1, by omega, [], [0, 1], by simp, by simp, k + 1, by omega, by simp [avMk, cMk], by simp [avMk, cMk]⟩
                      | trace_state
                  · have g1 : decide ((k : Int) < (l.length : Int)) = false := by rw [decide_eq_false_iff_not]; omega
                    have g2 : decide (k < l.length) = false := by simp [hlt2]
                    repeat' first
                        | with_reducible refine wp_regionS (seg_eval (by simp -dsimp -implicitDefEqProofs [g1, g2]; rfl) ?_)
                        | with_reducible refine wp_region (seg_eval (by simp -dsimp -implicitDefEqProofs [g1, g2]; rfl) ?_)
                        | with_reducible refine wp_drawsS (seg_eval (by simp -dsimp -implicitDefEqProofs [g1, g2]; rfl) ?_)
                        | with_reducible refine wp_draws (seg_eval (by simp -dsimp -implicitDefEqProofs [g1, g2]; rfl) ?_)
                        | with_reducible refine seg_fin ?_
                        | with_reducible refine seg_pan ?_
                        | with_reducible refine seg_both ?_ ?_
                        | with_reducible refine seg_case (fun x h => ?_) (fun h => ?_)
                        | with_reducible refine seg_gate (fun h => ?_) (fun h => ?_)
                        | with_reducible refine seg_need ?_ ?_
                        | with_reducible refine wp_assoc ?_ | with_reducible refine wp_skipS ?_ | with_reducible refine wp_retS ?_ | with_reducible refine wp_exitS ?_ | with_reducible refine wp_dropS (wp_eqT (by simp -dsimp -implicitDefEqProofs [g1, g2]; rfl) ?_) | with_reducible refine wp_sealS (by simp -dsimp -implicitDefEqProofs [g1, g2]; rfl) ?_ | with_reducible refine wp_seal (by simp -dsimp -implicitDefEqProofs [g1, g2]; rfl) ?_ | with_reducible refine wp_closeS (by simp -dsimp -implicitDefEqProofs [g1, g2]; rfl) ?_ | with_reducible refine wp_close (by simp -dsimp -implicitDefEqProofs [g1, g2]; rfl) ?_ | with_reducible refine wp_conc_out ?_ | with_reducible refine wp_open_out ?_ | with_reducible refine wp_pack_out ?_ | with_reducible refine wp_blockS ?_ | with_reducible refine wp_skip' ?_ | with_reducible refine wp_ret' ?_ | with_reducible refine wp_exit' ?_ | with_reducible refine wp_drop (wp_eqT (by simp -dsimp -implicitDefEqProofs [g1, g2]; rfl) ?_) | with_reducible refine wp_block' ?_
                        | with_reducible refine wp_condVS (by simp -dsimp -implicitDefEqProofs [g1, g2]; rfl) ?_
                        | with_reducible refine wp_condV (by simp -dsimp -implicitDefEqProofs [g1, g2]; rfl) ?_
                        | with_reducible refine cond_t ?_ | with_reducible refine cond_f ?_ | with_reducible refine cond_v (fun h => ?_) (fun h => ?_)
                        | with_reducible refine post_then ?_ | with_reducible refine post_thenE ?_ | with_reducible refine post_thenP ?_ | with_reducible refine post_blkP ?_ | with_reducible refine post_thenR ?_ | with_reducible refine post_blkN ?_ | with_reducible refine post_blkE ?_ | with_reducible refine post_blkF rfl ?_ | with_reducible refine post_blkR ?_
                        | with_reducible refine seg_eval (by simp -dsimp -implicitDefEqProofs [g1, g2]; rfl) ?_
                    exact hW _ _ ⟨by simp, by simp⟩
                · rintro ts mm ⟨rfl, rfl⟩
                  repeat' first
                      | with_reducible refine wp_regionS (seg_eval (by simp -dsimp -implicitDefEqProofs [h64]; rfl) ?_)
                      | with_reducible refine wp_region (seg_eval (by simp -dsimp -implicitDefEqProofs [h64]; rfl) ?_)
                      | with_reducible refine wp_drawsS (seg_eval (by simp -dsimp -implicitDefEqProofs [h64]; rfl) ?_)
                      | with_reducible refine wp_draws (seg_eval (by simp -dsimp -implicitDefEqProofs [h64]; rfl) ?_)
                      | with_reducible refine seg_fin ?_
                      | with_reducible refine seg_pan ?_
                      | with_reducible refine seg_both ?_ ?_
                      | with_reducible refine seg_case (fun x h => ?_) (fun h => ?_)
                      | with_reducible refine seg_gate (fun h => ?_) (fun h => ?_)
                      | with_reducible refine seg_need ?_ ?_
                      | with_reducible refine wp_assoc ?_ | with_reducible refine wp_skipS ?_ | with_reducible refine wp_retS ?_ | with_reducible refine wp_exitS ?_ | with_reducible refine wp_dropS (wp_eqT (by simp -dsimp -implicitDefEqProofs [h64]; rfl) ?_) | with_reducible refine wp_sealS (by simp -dsimp -implicitDefEqProofs [h64]; rfl) ?_ | with_reducible refine wp_seal (by simp -dsimp -implicitDefEqProofs [h64]; rfl) ?_ | with_reducible refine wp_closeS (by simp -dsimp -implicitDefEqProofs [h64]; rfl) ?_ | with_reducible refine wp_close (by simp -dsimp -implicitDefEqProofs [h64]; rfl) ?_ | with_reducible refine wp_conc_out ?_ | with_reducible refine wp_open_out ?_ | with_reducible refine wp_pack_out ?_ | with_reducible refine wp_blockS ?_ | with_reducible refine wp_skip' ?_ | with_reducible refine wp_ret' ?_ | with_reducible refine wp_exit' ?_ | with_reducible refine wp_drop (wp_eqT (by simp -dsimp -implicitDefEqProofs [h64]; rfl) ?_) | with_reducible refine wp_block' ?_
                      | with_reducible refine wp_condVS (by simp -dsimp -implicitDefEqProofs [h64]; rfl) ?_
                      | with_reducible refine wp_condV (by simp -dsimp -implicitDefEqProofs [h64]; rfl) ?_
                      | with_reducible refine cond_t ?_ | with_reducible refine cond_f ?_ | with_reducible refine cond_v (fun h => ?_) (fun h => ?_)
                      | with_reducible refine post_then ?_ | with_reducible refine post_thenE ?_ | with_reducible refine post_thenP ?_ | with_reducible refine post_blkP ?_ | with_reducible refine post_thenR ?_ | with_reducible refine post_blkN ?_ | with_reducible refine post_blkE ?_ | with_reducible refine post_blkF rfl ?_ | with_reducible refine post_blkR ?_
                      | with_reducible refine seg_eval (by simp -dsimp -implicitDefEqProofs [h64]; rfl) ?_
                  all_goals first
                    | omega
                    | exact ⟨j - 1, by omega, [], [0, 1], by simp, by simp, i + 1, hn, l, tk, bg, _, by omega, by omega, by omega, hg, hh, hfb, .inr rfl, by simp, by simp⟩))
      · have hd4 : decide ((i : Int) < 40) = false := by rw [decide_eq_false_iff_not]; omega
        have hd5 : decide (i < 40) = false := by simp; omega
        repeat' first
            | with_reducible refine wp_regionS (seg_eval (by simp -dsimp -implicitDefEqProofs [hd, hd2, hd4, hd5]; rfl) ?_)
            | with_reducible refine wp_region (seg_eval (by simp -dsimp -implicitDefEqProofs [hd, hd2, hd4, hd5]; rfl) ?_)
            | with_reducible refine wp_drawsS (seg_eval (by simp -dsimp -implicitDefEqProofs [hd, hd2, hd4, hd5]; rfl) ?_)
            | with_reducible refine wp_draws (seg_eval (by simp -dsimp -implicitDefEqProofs [hd, hd2, hd4, hd5]; rfl) ?_)
            | with_reducible refine seg_fin ?_
            | with_reducible refine seg_pan ?_
            | with_reducible refine seg_both ?_ ?_
            | with_reducible refine seg_case (fun x h => ?_) (fun h => ?_)
            | with_reducible refine seg_gate (fun h => ?_) (fun h => ?_)
            | with_reducible refine seg_need ?_ ?_
            | with_reducible refine wp_assoc ?_ | with_reducible refine wp_skipS ?_ | with_reducible refine wp_retS ?_ | with_reducible refine wp_exitS ?_ | with_reducible refine wp_dropS (wp_eqT (by simp -dsimp -implicitDefEqProofs [hd, hd2, hd4, hd5]; rfl) ?_) | with_reducible refine wp_sealS (by simp -dsimp -implicitDefEqProofs [hd, hd2, hd4, hd5]; rfl) ?_ | with_reducible refine wp_seal (by simp -dsimp -implicitDefEqProofs [hd, hd2, hd4, hd5]; rfl) ?_ | with_reducible refine wp_closeS (by simp -dsimp -implicitDefEqProofs [hd, hd2, hd4, hd5]; rfl) ?_ | with_reducible refine wp_close (by simp -dsimp -implicitDefEqProofs [hd, hd2, hd4, hd5]; rfl) ?_ | with_reducible refine wp_conc_out ?_ | with_reducible refine wp_open_out ?_ | with_reducible refine wp_pack_out ?_ | with_reducible refine wp_blockS ?_ | with_reducible refine wp_skip' ?_ | with_reducible refine wp_ret' ?_ | with_reducible refine wp_exit' ?_ | with_reducible refine wp_drop (wp_eqT (by simp -dsimp -implicitDefEqProofs [hd, hd2, hd4, hd5]; rfl) ?_) | with_reducible refine wp_block' ?_
            | with_reducible refine wp_condVS (by simp -dsimp -implicitDefEqProofs [hd, hd2, hd4, hd5]; rfl) ?_
            | with_reducible refine wp_condV (by simp -dsimp -implicitDefEqProofs [hd, hd2, hd4, hd5]; rfl) ?_
            | with_reducible refine cond_t ?_ | with_reducible refine cond_f ?_ | with_reducible refine cond_v (fun h => ?_) (fun h => ?_)
            | with_reducible refine post_then ?_ | with_reducible refine post_thenE ?_ | with_reducible refine post_thenP ?_ | with_reducible refine post_blkP ?_ | with_reducible refine post_thenR ?_ | with_reducible refine post_blkN ?_ | with_reducible refine post_blkE ?_ | with_reducible refine post_blkF rfl ?_ | with_reducible refine post_blkR ?_
            | with_reducible refine seg_eval (by simp -dsimp -implicitDefEqProofs [hd, hd2, hd4, hd5]; rfl) ?_
        all_goals first
          | omega
          | exact post_fin rfl rfl ⟨[], [], rfl, rfl, rfl, rfl⟩
          | trace_state
    · have hd : decide ((i : Int) < (ms.length : Int)) = false := by rw [decide_eq_false_iff_not]; omega
      have hd2 : decide (i < ms.length) = false := by simp [hlt]
      repeat' first
          | with_reducible refine wp_regionS (seg_eval (by simp -dsimp -implicitDefEqProofs [hd, hd2]; rfl) ?_)
          | with_reducible refine wp_region (seg_eval (by simp -dsimp -implicitDefEqProofs [hd, hd2]; rfl) ?_)
          | with_reducible refine wp_drawsS (seg_eval (by simp -dsimp -implicitDefEqProofs [hd, hd2]; rfl) ?_)
          | with_reducible refine wp_draws (seg_eval (by simp -dsimp -implicitDefEqProofs [hd, hd2]; rfl) ?_)
          | with_reducible refine seg_fin ?_
          | with_reducible refine seg_pan ?_
          | with_reducible refine seg_both ?_ ?_
          | with_reducible refine seg_case (fun x h => ?_) (fun h => ?_)
          | with_reducible refine seg_gate (fun h => ?_) (fun h => ?_)
          | with_reducible refine seg_need ?_ ?_
          | with_reducible refine wp_assoc ?_ | with_reducible refine wp_skipS ?_ | with_reducible refine wp_retS ?_ | with_reducible refine wp_exitS ?_ | with_reducible refine wp_dropS (wp_eqT (by simp -dsimp -implicitDefEqProofs [hd, hd2]; rfl) ?_) | with_reducible refine wp_sealS (by simp -dsimp -implicitDefEqProofs [hd, hd2]; rfl) ?_ | with_reducible refine wp_seal (by simp -dsimp -implicitDefEqProofs [hd, hd2]; rfl) ?_ | with_reducible refine wp_closeS (by simp -dsimp -implicitDefEqProofs [hd, hd2]; rfl) ?_ | with_reducible refine wp_close (by simp -dsimp -implicitDefEqProofs [hd, hd2]; rfl) ?_ | with_reducible refine wp_conc_out ?_ | with_reducible refine wp_open_out ?_ | with_reducible refine wp_pack_out ?_ | with_reducible refine wp_blockS ?_ | with_reducible refine wp_skip' ?_ | with_reducible refine wp_ret' ?_ | with_reducible refine wp_exit' ?_ | with_reducible refine wp_drop (wp_eqT (by simp -dsimp -implicitDefEqProofs [hd, hd2]; rfl) ?_) | with_reducible refine wp_block' ?_
          | with_reducible refine wp_condVS (by simp -dsimp -implicitDefEqProofs [hd, hd2]; rfl) ?_
          | with_reducible refine wp_condV (by simp -dsimp -implicitDefEqProofs [hd, hd2]; rfl) ?_
          | with_reducible refine cond_t ?_ | with_reducible refine cond_f ?_ | with_reducible refine cond_v (fun h => ?_) (fun h => ?_)
          | with_reducible refine post_then ?_ | with_reducible refine post_thenE ?_ | with_reducible refine post_thenP ?_ | with_reducible refine post_blkP ?_ | with_reducible refine post_thenR ?_ | with_reducible refine post_blkN ?_ | with_reducible refine post_blkE ?_ | with_reducible refine post_blkF rfl ?_ | with_reducible refine post_blkR ?_
          | with_reducible refine seg_eval (by simp -dsimp -implicitDefEqProofs [hd, hd2]; rfl) ?_
      all_goals first
        | omega
        | exact post_fin rfl rfl ⟨[], [], rfl, rfl, rfl, rfl⟩
        | trace_state
end Go.Proofs.Ytbponegjfccgfaa.Am
