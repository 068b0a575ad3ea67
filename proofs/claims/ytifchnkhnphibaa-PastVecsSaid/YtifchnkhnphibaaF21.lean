import Derived.Test.YtifchnkhnphibaaF20
namespace Go.Proofs.Ytifchnkhnphibaa.Am
set_option linter.unusedSimpArgs false
set_option linter.unusedVariables false
open Go Go.Proofs
attribute [local irreducible] wpA

theorem oneP_len (b : List UInt8) (a : Nat) : (oneP b a).2 ≤ 8257 := by
  have v1' : valB b (a + 1) 1 < 256 := by
    have := leB_lt ((b.drop (a + 1)).take 1)
    have h2 : 256 ^ ((b.drop (a + 1)).take 1).length ≤ 256 ^ 1 := Nat.pow_le_pow_right (by decide) (by rw [List.length_take]; omega)
    unfold valB
    omega
  unfold oneP
  split
  · simp
  · split
    · simp only; omega
    · simp only; omega

def refR (b : List UInt8) : List Fld := if refOk b = true then refL b else []
def refE (b : List UInt8) : Nat := if refOk b = true then 0 else 4

def spDecodeR2 : Spec
  | [.fsl 1 es], [] => (inB es).bind fun b => some (.ret (.tup [.fsl 4 ((refR b).map av2), .v (.int .i64 (refE b))]), [])
  | _, _ => none

set_option maxHeartbeats 8000000 in
theorem decodeR2_ok : CallOk Try.prog 29 spDecodeR2 := by
  refine ok_29 E20_ok spDecodeR2 fun args mem r mem1 h => ?_
  unfold spDecodeR2 at h
  split at h
  case h_2 => cases h
  rename_i es
  obtain ⟨b, hb, h2⟩ := Option.bind_eq_some_iff.1 h
  clear h
  have := inB_some es b hb
  subst this
  clear hb
  cases h2
  unfold ac_29
  cases b with
  | nil =>
    have e1 : refR [] = [] := by simp [refR, refOk]
    have e2 : refE [] = 4 := by simp [refE, refOk]
    rw [e1, e2]
    repeat' first
        | with_reducible refine wp_regionS (seg_eval (by simp -dsimp -implicitDefEqProofs; rfl) ?_)
        | with_reducible refine wp_region (seg_eval (by simp -dsimp -implicitDefEqProofs; rfl) ?_)
        | with_reducible refine wp_drawsS (seg_eval (by simp -dsimp -implicitDefEqProofs; rfl) ?_)
        | with_reducible refine wp_draws (seg_eval (by simp -dsimp -implicitDefEqProofs; rfl) ?_)
        | with_reducible refine seg_fin ?_
        | with_reducible refine seg_pan ?_
        | with_reducible refine seg_both ?_ ?_
        | with_reducible refine seg_case (fun x h => ?_) (fun h => ?_)
        | with_reducible refine seg_gate (fun h => ?_) (fun h => ?_)
        | with_reducible refine seg_need ?_ ?_
        | with_reducible refine wp_assoc ?_ | with_reducible refine wp_skipS ?_ | with_reducible refine wp_retS ?_ | with_reducible refine wp_exitS ?_ | with_reducible refine wp_dropS (wp_eqT (by simp -dsimp -implicitDefEqProofs; rfl) ?_) | with_reducible refine wp_sealS (by simp -dsimp -implicitDefEqProofs; rfl) ?_ | with_reducible refine wp_seal (by simp -dsimp -implicitDefEqProofs; rfl) ?_ | with_reducible refine wp_blockS ?_ | with_reducible refine wp_skip' ?_ | with_reducible refine wp_ret' ?_ | with_reducible refine wp_exit' ?_ | with_reducible refine wp_drop (wp_eqT (by simp -dsimp -implicitDefEqProofs; rfl) ?_) | with_reducible refine wp_block' ?_
        | with_reducible refine wp_condVS (by simp -dsimp -implicitDefEqProofs; rfl) ?_
        | with_reducible refine wp_condV (by simp -dsimp -implicitDefEqProofs; rfl) ?_
        | with_reducible refine cond_t ?_ | with_reducible refine cond_f ?_ | with_reducible refine cond_v (fun h => ?_) (fun h => ?_)
        | with_reducible refine post_then ?_ | with_reducible refine post_thenE ?_ | with_reducible refine post_thenP ?_ | with_reducible refine post_blkP ?_ | with_reducible refine post_thenR ?_ | with_reducible refine post_blkN ?_ | with_reducible refine post_blkE ?_ | with_reducible refine post_blkF rfl ?_ | with_reducible refine post_blkR ?_
        | with_reducible refine seg_eval (by simp -dsimp -implicitDefEqProofs; rfl) ?_
    all_goals first
      | exact post_finS rfl rfl (.tup (.cons (.nil 0 4) (.cons (.rfl _) .nil))) ⟨[], [], rfl, rfl, rfl, rfl⟩
      | trace_state
  | cons c t =>
  have hz : ((t.length : Int) + 1 == 0) = false := by rw [beq_eq_false_iff_ne]; omega
  by_cases hbig : 8000 < t.length + 1
  · have hno : ¬ refOk (c :: t) = true := by
      unfold refOk
      rw [decide_eq_true_eq]
      rintro ⟨_, h, _⟩
      simp at h; omega
    have e1 : refR (c :: t) = [] := by unfold refR; rw [if_neg hno]
    have e2 : refE (c :: t) = 4 := by unfold refE; rw [if_neg hno]
    rw [e1, e2]
    have hd : decide (8000 < (t.length : Int) + 1) = true := by rw [decide_eq_true_eq]; omega
    repeat' first
        | with_reducible refine wp_regionS (seg_eval (by simp -dsimp -implicitDefEqProofs [hz, hd]; rfl) ?_)
        | with_reducible refine wp_region (seg_eval (by simp -dsimp -implicitDefEqProofs [hz, hd]; rfl) ?_)
        | with_reducible refine wp_drawsS (seg_eval (by simp -dsimp -implicitDefEqProofs [hz, hd]; rfl) ?_)
        | with_reducible refine wp_draws (seg_eval (by simp -dsimp -implicitDefEqProofs [hz, hd]; rfl) ?_)
        | with_reducible refine seg_fin ?_
        | with_reducible refine seg_pan ?_
        | with_reducible refine seg_both ?_ ?_
        | with_reducible refine seg_case (fun x h => ?_) (fun h => ?_)
        | with_reducible refine seg_gate (fun h => ?_) (fun h => ?_)
        | with_reducible refine seg_need ?_ ?_
        | with_reducible refine wp_assoc ?_ | with_reducible refine wp_skipS ?_ | with_reducible refine wp_retS ?_ | with_reducible refine wp_exitS ?_ | with_reducible refine wp_dropS (wp_eqT (by simp -dsimp -implicitDefEqProofs [hz, hd]; rfl) ?_) | with_reducible refine wp_sealS (by simp -dsimp -implicitDefEqProofs [hz, hd]; rfl) ?_ | with_reducible refine wp_seal (by simp -dsimp -implicitDefEqProofs [hz, hd]; rfl) ?_ | with_reducible refine wp_blockS ?_ | with_reducible refine wp_skip' ?_ | with_reducible refine wp_ret' ?_ | with_reducible refine wp_exit' ?_ | with_reducible refine wp_drop (wp_eqT (by simp -dsimp -implicitDefEqProofs [hz, hd]; rfl) ?_) | with_reducible refine wp_block' ?_
        | with_reducible refine wp_condVS (by simp -dsimp -implicitDefEqProofs [hz, hd]; rfl) ?_
        | with_reducible refine wp_condV (by simp -dsimp -implicitDefEqProofs [hz, hd]; rfl) ?_
        | with_reducible refine cond_t ?_ | with_reducible refine cond_f ?_ | with_reducible refine cond_v (fun h => ?_) (fun h => ?_)
        | with_reducible refine post_then ?_ | with_reducible refine post_thenE ?_ | with_reducible refine post_thenP ?_ | with_reducible refine post_blkP ?_ | with_reducible refine post_thenR ?_ | with_reducible refine post_blkN ?_ | with_reducible refine post_blkE ?_ | with_reducible refine post_blkF rfl ?_ | with_reducible refine post_blkR ?_
        | with_reducible refine seg_eval (by simp -dsimp -implicitDefEqProofs [hz, hd]; rfl) ?_
    all_goals first
      | exact post_finS rfl rfl (.tup (.cons (.nil 0 4) (.cons (.rfl _) .nil))) ⟨[], [], rfl, rfl, rfl, rfl⟩
      | trace_state
  have hd : decide (8000 < (t.length : Int) + 1) = false := by rw [decide_eq_false_iff_not]; omega
  have hcl := c.toNat_lt
  have hc64 : IntKind.wrap .i64 (c.toNat : Int) = (c.toNat : Int) := IntWalk.i64_in _ (by omega)
  repeat' first
      | with_reducible refine wp_regionS (seg_eval (by simp -dsimp -implicitDefEqProofs [hz, hd]; rfl) ?_)
      | with_reducible refine wp_region (seg_eval (by simp -dsimp -implicitDefEqProofs [hz, hd]; rfl) ?_)
      | with_reducible refine wp_drawsS (seg_eval (by simp -dsimp -implicitDefEqProofs [hz, hd]; rfl) ?_)
      | with_reducible refine wp_draws (seg_eval (by simp -dsimp -implicitDefEqProofs [hz, hd]; rfl) ?_)
      | with_reducible refine seg_fin ?_
      | with_reducible refine seg_pan ?_
      | with_reducible refine seg_both ?_ ?_
      | with_reducible refine seg_case (fun x h => ?_) (fun h => ?_)
      | with_reducible refine seg_gate (fun h => ?_) (fun h => ?_)
      | with_reducible refine seg_need ?_ ?_
      | with_reducible refine wp_assoc ?_ | with_reducible refine wp_skipS ?_ | with_reducible refine wp_retS ?_ | with_reducible refine wp_exitS ?_ | with_reducible refine wp_dropS (wp_eqT (by simp -dsimp -implicitDefEqProofs [hz, hd]; rfl) ?_) | with_reducible refine wp_sealS (by simp -dsimp -implicitDefEqProofs [hz, hd]; rfl) ?_ | with_reducible refine wp_seal (by simp -dsimp -implicitDefEqProofs [hz, hd]; rfl) ?_ | with_reducible refine wp_blockS ?_ | with_reducible refine wp_skip' ?_ | with_reducible refine wp_ret' ?_ | with_reducible refine wp_exit' ?_ | with_reducible refine wp_drop (wp_eqT (by simp -dsimp -implicitDefEqProofs [hz, hd]; rfl) ?_) | with_reducible refine wp_block' ?_
      | with_reducible refine wp_condVS (by simp -dsimp -implicitDefEqProofs [hz, hd]; rfl) ?_
      | with_reducible refine wp_condV (by simp -dsimp -implicitDefEqProofs [hz, hd]; rfl) ?_
      | with_reducible refine cond_t ?_ | with_reducible refine cond_f ?_ | with_reducible refine cond_v (fun h => ?_) (fun h => ?_)
      | with_reducible refine post_then ?_ | with_reducible refine post_thenE ?_ | with_reducible refine post_thenP ?_ | with_reducible refine post_blkP ?_ | with_reducible refine post_thenR ?_ | with_reducible refine post_blkN ?_ | with_reducible refine post_blkE ?_ | with_reducible refine post_blkF rfl ?_ | with_reducible refine post_blkR ?_
      | with_reducible refine seg_eval (by simp -dsimp -implicitDefEqProofs [hz, hd]; rfl) ?_
  refine wp_loop' (fun j ts mm => ∃ (fs : List Fld) (a : Nat), fs.length + j = c.toNat ∧ a ≤ 1 + 8257 * fs.length ∧ refL (c :: t) = fs ++ refFs j (c :: t) a ∧ (∀ f ∈ fs, f.ok = true) ∧ ts = [(0, .fsl 1 (bv (c :: t))), (4, .osl 0), (5, .v (.int .i64 a)), (6, .v (.int .i64 fs.length))] ∧ mm = [.arr 57 4 (fs.map av2)]) c.toNat ?_ ?_
  · exact ⟨[(4, 57, 4)], [0], rfl, rfl, [], 1, by simp, by simp, by simp [refL], by simp, by simp, by simp⟩
  · rintro j ts mm ⟨fs, a, hj, ha, hL, hok, rfl, rfl⟩
    have hfin : fs = refL (c :: t) → (fs.all Fld.ok = true ∧ fs.length ≤ 440) := fun h => by
      refine ⟨List.all_eq_true.2 hok, ?_⟩
      have := refL_len (c :: t)
      rw [← h] at this
      omega
    have hbne : ∀ l : List UInt8, ((⟨l.toArray⟩ : ByteArray) != ⟨(c :: t).toArray⟩) = !decide (l = c :: t) := fun l => by
      rw [bne]
      congr 1
      rw [Bool.eq_iff_iff, beq_bytes, decide_eq_true_eq]
      constructor
      · intro h
        have := congrArg tb h
        rwa [tb_mk, tb_mk] at this
      · rintro rfl; rfl
    have hstop : fs = refL (c :: t) → (encE fs = 0 ∧ enc fs = c :: t → refR (c :: t) = fs ∧ refE (c :: t) = 0) ∧ (¬ (encE fs = 0 ∧ enc fs = c :: t) → refR (c :: t) = [] ∧ refE (c :: t) = 4) := fun h => by
      constructor
      · intro h2
        have : refOk (c :: t) = true := by
          unfold refOk
          rw [decide_eq_true_eq, ← h]
          exact ⟨by simp, by simp; omega, h2.1, h2.2⟩
        exact ⟨by unfold refR; rw [if_pos this, h], by unfold refE; rw [if_pos this]⟩
      · intro h2
        have : ¬ refOk (c :: t) = true := by
          unfold refOk
          rw [decide_eq_true_eq, ← h]
          exact fun h3 => h2 ⟨h3.2.2.1, h3.2.2.2⟩
        exact ⟨by unfold refR; rw [if_neg this], by unfold refE; rw [if_neg this]⟩
    have hend : fs = refL (c :: t) → ∀ (x y : Bool), x = decide (fs.length < c.toNat) → y = decide ((a : Int) < (t.length : Int) + 1) → (x && y) = false → True := fun _ _ _ _ _ _ => trivial
    by_cases hlt : fs.length < c.toNat
    · obtain ⟨j, rfl⟩ : ∃ k, j = k + 1 := ⟨j - 1, by omega⟩
      have hd1 : decide (fs.length < c.toNat) = true := by simp [hlt]
      by_cases hat : a < (c :: t).length
      · have hat' : a < t.length + 1 := by simpa using hat
        have hd2 : decide ((a : Int) < (t.length : Int) + 1) = true := by rw [decide_eq_true_eq]; omega
        have hone := oneP_ok (c :: t) a
        have hol := oneP_len (c :: t) a
        have hL' : refL (c :: t) = (fs ++ [(oneP (c :: t) a).1]) ++ refFs j (c :: t) (a + (oneP (c :: t) a).2) := by
          rw [hL]
          simp only [refFs, hat, if_true]
          simp
        generalize hp : oneP (c :: t) a = p at hone hol hL'
        obtain ⟨f, n⟩ := p
        simp only at hone hol hL'
        have h64 : IntKind.wrap .i64 ((fs.length : Int) + 1) = ((fs.length + 1 : Nat) : Int) := by rw [IntWalk.i64_in _ (by omega)]; rfl
        have han : IntKind.wrap .i64 ((a : Int) + (n : Int)) = ((a + n : Nat) : Int) := by rw [IntWalk.i64_in _ (by omega)]; rfl
        repeat' first
            | with_reducible refine wp_regionS (seg_eval (by simp -dsimp -implicitDefEqProofs [hd1, hd2, hc64, hp, h64, han]; rfl) ?_)
            | with_reducible refine wp_region (seg_eval (by simp -dsimp -implicitDefEqProofs [hd1, hd2, hc64, hp, h64, han]; rfl) ?_)
            | with_reducible refine wp_drawsS (seg_eval (by simp -dsimp -implicitDefEqProofs [hd1, hd2, hc64, hp, h64, han]; rfl) ?_)
            | with_reducible refine wp_draws (seg_eval (by simp -dsimp -implicitDefEqProofs [hd1, hd2, hc64, hp, h64, han]; rfl) ?_)
            | with_reducible refine seg_fin ?_
            | with_reducible refine seg_pan ?_
            | with_reducible refine seg_both ?_ ?_
            | with_reducible refine seg_case (fun x h => ?_) (fun h => ?_)
            | with_reducible refine seg_gate (fun h => ?_) (fun h => ?_)
            | with_reducible refine seg_need ?_ ?_
            | with_reducible refine wp_assoc ?_ | with_reducible refine wp_skipS ?_ | with_reducible refine wp_retS ?_ | with_reducible refine wp_exitS ?_ | with_reducible refine wp_dropS (wp_eqT (by simp -dsimp -implicitDefEqProofs [hd1, hd2, hc64, hp, h64, han]; rfl) ?_) | with_reducible refine wp_sealS (by simp -dsimp -implicitDefEqProofs [hd1, hd2, hc64, hp, h64, han]; rfl) ?_ | with_reducible refine wp_seal (by simp -dsimp -implicitDefEqProofs [hd1, hd2, hc64, hp, h64, han]; rfl) ?_ | with_reducible refine wp_blockS ?_ | with_reducible refine wp_skip' ?_ | with_reducible refine wp_ret' ?_ | with_reducible refine wp_exit' ?_ | with_reducible refine wp_drop (wp_eqT (by simp -dsimp -implicitDefEqProofs [hd1, hd2, hc64, hp, h64, han]; rfl) ?_) | with_reducible refine wp_block' ?_
            | with_reducible refine wp_condVS (by simp -dsimp -implicitDefEqProofs [hd1, hd2, hc64, hp, h64, han]; rfl) ?_
            | with_reducible refine wp_condV (by simp -dsimp -implicitDefEqProofs [hd1, hd2, hc64, hp, h64, han]; rfl) ?_
            | with_reducible refine cond_t ?_ | with_reducible refine cond_f ?_ | with_reducible refine cond_v (fun h => ?_) (fun h => ?_)
            | with_reducible refine post_then ?_ | with_reducible refine post_thenE ?_ | with_reducible refine post_thenP ?_ | with_reducible refine post_blkP ?_ | with_reducible refine post_thenR ?_ | with_reducible refine post_blkN ?_ | with_reducible refine post_blkE ?_ | with_reducible refine post_blkF rfl ?_ | with_reducible refine post_blkR ?_
            | with_reducible refine seg_eval (by simp -dsimp -implicitDefEqProofs [hd1, hd2, hc64, hp, h64, han]; rfl) ?_
        all_goals first
          | omega
          | (refine ⟨j, by omega, [], [3], rfl, rfl, fs ++ [f], a + n, by simp; omega, by simp; omega, hL', ?_, by simp, by simp⟩
             intro g hg
             rcases List.mem_append.1 hg with hg | hg
             · exact hok g hg
             · rw [List.mem_singleton.1 hg]; exact hone)
          | trace_state
      · have hd2 : decide ((a : Int) < (t.length : Int) + 1) = false := by rw [decide_eq_false_iff_not]; simp at hat; omega
        have hfs : fs = refL (c :: t) := by rw [hL]; simp only [refFs, hat, if_false, List.append_nil]
        obtain ⟨g1, g2⟩ := hfin hfs
        obtain ⟨s1, s2⟩ := hstop hfs
        by_cases he : encE fs = 0
        · by_cases hc : enc fs = c :: t
          · obtain ⟨r1, r2⟩ := s1 ⟨he, hc⟩
            have hb0 := hbne (enc fs)
            rw [decide_eq_true hc] at hb0
            rw [r1, r2]
            repeat' first
                | with_reducible refine wp_regionS (seg_eval (by simp -dsimp -implicitDefEqProofs [hd1, hd2, hc64, he, hb0]; rfl) ?_)
                | with_reducible refine wp_region (seg_eval (by simp -dsimp -implicitDefEqProofs [hd1, hd2, hc64, he, hb0]; rfl) ?_)
                | with_reducible refine wp_drawsS (seg_eval (by simp -dsimp -implicitDefEqProofs [hd1, hd2, hc64, he, hb0]; rfl) ?_)
                | with_reducible refine wp_draws (seg_eval (by simp -dsimp -implicitDefEqProofs [hd1, hd2, hc64, he, hb0]; rfl) ?_)
                | with_reducible refine seg_fin ?_
                | with_reducible refine seg_pan ?_
                | with_reducible refine seg_both ?_ ?_
                | with_reducible refine seg_case (fun x h => ?_) (fun h => ?_)
                | with_reducible refine seg_gate (fun h => ?_) (fun h => ?_)
                | with_reducible refine seg_need ?_ ?_
                | with_reducible refine wp_assoc ?_ | with_reducible refine wp_skipS ?_ | with_reducible refine wp_retS ?_ | with_reducible refine wp_exitS ?_ | with_reducible refine wp_dropS (wp_eqT (by simp -dsimp -implicitDefEqProofs [hd1, hd2, hc64, he, hb0]; rfl) ?_) | with_reducible refine wp_sealS (by simp -dsimp -implicitDefEqProofs [hd1, hd2, hc64, he, hb0]; rfl) ?_ | with_reducible refine wp_seal (by simp -dsimp -implicitDefEqProofs [hd1, hd2, hc64, he, hb0]; rfl) ?_ | with_reducible refine wp_blockS ?_ | with_reducible refine wp_skip' ?_ | with_reducible refine wp_ret' ?_ | with_reducible refine wp_exit' ?_ | with_reducible refine wp_drop (wp_eqT (by simp -dsimp -implicitDefEqProofs [hd1, hd2, hc64, he, hb0]; rfl) ?_) | with_reducible refine wp_block' ?_
                | with_reducible refine wp_condVS (by simp -dsimp -implicitDefEqProofs [hd1, hd2, hc64, he, hb0]; rfl) ?_
                | with_reducible refine wp_condV (by simp -dsimp -implicitDefEqProofs [hd1, hd2, hc64, he, hb0]; rfl) ?_
                | with_reducible refine cond_t ?_ | with_reducible refine cond_f ?_ | with_reducible refine cond_v (fun h => ?_) (fun h => ?_)
                | with_reducible refine post_then ?_ | with_reducible refine post_thenE ?_ | with_reducible refine post_thenP ?_ | with_reducible refine post_blkP ?_ | with_reducible refine post_thenR ?_ | with_reducible refine post_blkN ?_ | with_reducible refine post_blkE ?_ | with_reducible refine post_blkF rfl ?_ | with_reducible refine post_blkR ?_
                | with_reducible refine seg_eval (by simp -dsimp -implicitDefEqProofs [hd1, hd2, hc64, he, hb0]; rfl) ?_
            all_goals first
              | exact ⟨hok, g2⟩
              | exact post_fin rfl rfl ⟨[], [], rfl, rfl, rfl, rfl⟩
              | trace_state
          · obtain ⟨r1, r2⟩ := s2 (fun h => hc h.2)
            have hb0 := hbne (enc fs)
            rw [decide_eq_false hc] at hb0
            rw [r1, r2]
            repeat' first
                | with_reducible refine wp_regionS (seg_eval (by simp -dsimp -implicitDefEqProofs [hd1, hd2, hc64, he, hb0]; rfl) ?_)
                | with_reducible refine wp_region (seg_eval (by simp -dsimp -implicitDefEqProofs [hd1, hd2, hc64, he, hb0]; rfl) ?_)
                | with_reducible refine wp_drawsS (seg_eval (by simp -dsimp -implicitDefEqProofs [hd1, hd2, hc64, he, hb0]; rfl) ?_)
                | with_reducible refine wp_draws (seg_eval (by simp -dsimp -implicitDefEqProofs [hd1, hd2, hc64, he, hb0]; rfl) ?_)
                | with_reducible refine seg_fin ?_
                | with_reducible refine seg_pan ?_
                | with_reducible refine seg_both ?_ ?_
                | with_reducible refine seg_case (fun x h => ?_) (fun h => ?_)
                | with_reducible refine seg_gate (fun h => ?_) (fun h => ?_)
                | with_reducible refine seg_need ?_ ?_
                | with_reducible refine wp_assoc ?_ | with_reducible refine wp_skipS ?_ | with_reducible refine wp_retS ?_ | with_reducible refine wp_exitS ?_ | with_reducible refine wp_dropS (wp_eqT (by simp -dsimp -implicitDefEqProofs [hd1, hd2, hc64, he, hb0]; rfl) ?_) | with_reducible refine wp_sealS (by simp -dsimp -implicitDefEqProofs [hd1, hd2, hc64, he, hb0]; rfl) ?_ | with_reducible refine wp_seal (by simp -dsimp -implicitDefEqProofs [hd1, hd2, hc64, he, hb0]; rfl) ?_ | with_reducible refine wp_blockS ?_ | with_reducible refine wp_skip' ?_ | with_reducible refine wp_ret' ?_ | with_reducible refine wp_exit' ?_ | with_reducible refine wp_drop (wp_eqT (by simp -dsimp -implicitDefEqProofs [hd1, hd2, hc64, he, hb0]; rfl) ?_) | with_reducible refine wp_block' ?_
                | with_reducible refine wp_condVS (by simp -dsimp -implicitDefEqProofs [hd1, hd2, hc64, he, hb0]; rfl) ?_
                | with_reducible refine wp_condV (by simp -dsimp -implicitDefEqProofs [hd1, hd2, hc64, he, hb0]; rfl) ?_
                | with_reducible refine cond_t ?_ | with_reducible refine cond_f ?_ | with_reducible refine cond_v (fun h => ?_) (fun h => ?_)
                | with_reducible refine post_then ?_ | with_reducible refine post_thenE ?_ | with_reducible refine post_thenP ?_ | with_reducible refine post_blkP ?_ | with_reducible refine post_thenR ?_ | with_reducible refine post_blkN ?_ | with_reducible refine post_blkE ?_ | with_reducible refine post_blkF rfl ?_ | with_reducible refine post_blkR ?_
                | with_reducible refine seg_eval (by simp -dsimp -implicitDefEqProofs [hd1, hd2, hc64, he, hb0]; rfl) ?_
            all_goals first
              | exact ⟨hok, g2⟩
              | exact post_finS rfl rfl (.tup (.cons (.nil 0 4) (.cons (.rfl _) .nil))) ⟨[], [], rfl, rfl, rfl, rfl⟩
              | trace_state
        · obtain ⟨r1, r2⟩ := s2 (fun h => he h.1)
          have he' : (encE fs != 0) = true := by simp [he]
          rw [r1, r2]
          repeat' first
              | with_reducible refine wp_regionS (seg_eval (by simp -dsimp -implicitDefEqProofs [hd1, hd2, hc64, he']; rfl) ?_)
              | with_reducible refine wp_region (seg_eval (by simp -dsimp -implicitDefEqProofs [hd1, hd2, hc64, he']; rfl) ?_)
              | with_reducible refine wp_drawsS (seg_eval (by simp -dsimp -implicitDefEqProofs [hd1, hd2, hc64, he']; rfl) ?_)
              | with_reducible refine wp_draws (seg_eval (by simp -dsimp -implicitDefEqProofs [hd1, hd2, hc64, he']; rfl) ?_)
              | with_reducible refine seg_fin ?_
              | with_reducible refine seg_pan ?_
              | with_reducible refine seg_both ?_ ?_
              | with_reducible refine seg_case (fun x h => ?_) (fun h => ?_)
              | with_reducible refine seg_gate (fun h => ?_) (fun h => ?_)
              | with_reducible refine seg_need ?_ ?_
              | with_reducible refine wp_assoc ?_ | with_reducible refine wp_skipS ?_ | with_reducible refine wp_retS ?_ | with_reducible refine wp_exitS ?_ | with_reducible refine wp_dropS (wp_eqT (by simp -dsimp -implicitDefEqProofs [hd1, hd2, hc64, he']; rfl) ?_) | with_reducible refine wp_sealS (by simp -dsimp -implicitDefEqProofs [hd1, hd2, hc64, he']; rfl) ?_ | with_reducible refine wp_seal (by simp -dsimp -implicitDefEqProofs [hd1, hd2, hc64, he']; rfl) ?_ | with_reducible refine wp_blockS ?_ | with_reducible refine wp_skip' ?_ | with_reducible refine wp_ret' ?_ | with_reducible refine wp_exit' ?_ | with_reducible refine wp_drop (wp_eqT (by simp -dsimp -implicitDefEqProofs [hd1, hd2, hc64, he']; rfl) ?_) | with_reducible refine wp_block' ?_
              | with_reducible refine wp_condVS (by simp -dsimp -implicitDefEqProofs [hd1, hd2, hc64, he']; rfl) ?_
              | with_reducible refine wp_condV (by simp -dsimp -implicitDefEqProofs [hd1, hd2, hc64, he']; rfl) ?_
              | with_reducible refine cond_t ?_ | with_reducible refine cond_f ?_ | with_reducible refine cond_v (fun h => ?_) (fun h => ?_)
              | with_reducible refine post_then ?_ | with_reducible refine post_thenE ?_ | with_reducible refine post_thenP ?_ | with_reducible refine post_blkP ?_ | with_reducible refine post_thenR ?_ | with_reducible refine post_blkN ?_ | with_reducible refine post_blkE ?_ | with_reducible refine post_blkF rfl ?_ | with_reducible refine post_blkR ?_
              | with_reducible refine seg_eval (by simp -dsimp -implicitDefEqProofs [hd1, hd2, hc64, he']; rfl) ?_
          all_goals first
            | exact ⟨hok, g2⟩
            | exact post_finS rfl rfl (.tup (.cons (.nil 0 4) (.cons (.rfl _) .nil))) ⟨[], [], rfl, rfl, rfl, rfl⟩
            | trace_state
    · have hj0 : j = 0 := by omega
      subst hj0
      have hd1 : decide (fs.length < c.toNat) = false := by simp [hlt]
      have hfs : fs = refL (c :: t) := by rw [hL]; simp only [refFs, List.append_nil]
      obtain ⟨g1, g2⟩ := hfin hfs
      obtain ⟨s1, s2⟩ := hstop hfs
      by_cases he : encE fs = 0
      · by_cases hc : enc fs = c :: t
        · obtain ⟨r1, r2⟩ := s1 ⟨he, hc⟩
          have hb0 := hbne (enc fs)
          rw [decide_eq_true hc] at hb0
          rw [r1, r2]
          repeat' first
              | with_reducible refine wp_regionS (seg_eval (by simp -dsimp -implicitDefEqProofs [hd1, hc64, he, hb0]; rfl) ?_)
              | with_reducible refine wp_region (seg_eval (by simp -dsimp -implicitDefEqProofs [hd1, hc64, he, hb0]; rfl) ?_)
              | with_reducible refine wp_drawsS (seg_eval (by simp -dsimp -implicitDefEqProofs [hd1, hc64, he, hb0]; rfl) ?_)
              | with_reducible refine wp_draws (seg_eval (by simp -dsimp -implicitDefEqProofs [hd1, hc64, he, hb0]; rfl) ?_)
              | with_reducible refine seg_fin ?_
              | with_reducible refine seg_pan ?_
              | with_reducible refine seg_both ?_ ?_
              | with_reducible refine seg_case (fun x h => ?_) (fun h => ?_)
              | with_reducible refine seg_gate (fun h => ?_) (fun h => ?_)
              | with_reducible refine seg_need ?_ ?_
              | with_reducible refine wp_assoc ?_ | with_reducible refine wp_skipS ?_ | with_reducible refine wp_retS ?_ | with_reducible refine wp_exitS ?_ | with_reducible refine wp_dropS (wp_eqT (by simp -dsimp -implicitDefEqProofs [hd1, hc64, he, hb0]; rfl) ?_) | with_reducible refine wp_sealS (by simp -dsimp -implicitDefEqProofs [hd1, hc64, he, hb0]; rfl) ?_ | with_reducible refine wp_seal (by simp -dsimp -implicitDefEqProofs [hd1, hc64, he, hb0]; rfl) ?_ | with_reducible refine wp_blockS ?_ | with_reducible refine wp_skip' ?_ | with_reducible refine wp_ret' ?_ | with_reducible refine wp_exit' ?_ | with_reducible refine wp_drop (wp_eqT (by simp -dsimp -implicitDefEqProofs [hd1, hc64, he, hb0]; rfl) ?_) | with_reducible refine wp_block' ?_
              | with_reducible refine wp_condVS (by simp -dsimp -implicitDefEqProofs [hd1, hc64, he, hb0]; rfl) ?_
              | with_reducible refine wp_condV (by simp -dsimp -implicitDefEqProofs [hd1, hc64, he, hb0]; rfl) ?_
              | with_reducible refine cond_t ?_ | with_reducible refine cond_f ?_ | with_reducible refine cond_v (fun h => ?_) (fun h => ?_)
              | with_reducible refine post_then ?_ | with_reducible refine post_thenE ?_ | with_reducible refine post_thenP ?_ | with_reducible refine post_blkP ?_ | with_reducible refine post_thenR ?_ | with_reducible refine post_blkN ?_ | with_reducible refine post_blkE ?_ | with_reducible refine post_blkF rfl ?_ | with_reducible refine post_blkR ?_
              | with_reducible refine seg_eval (by simp -dsimp -implicitDefEqProofs [hd1, hc64, he, hb0]; rfl) ?_
          all_goals first
            | exact ⟨hok, g2⟩
            | exact post_fin rfl rfl ⟨[], [], rfl, rfl, rfl, rfl⟩
            | trace_state
        · obtain ⟨r1, r2⟩ := s2 (fun h => hc h.2)
          have hb0 := hbne (enc fs)
          rw [decide_eq_false hc] at hb0
          rw [r1, r2]
          repeat' first
              | with_reducible refine wp_regionS (seg_eval (by simp -dsimp -implicitDefEqProofs [hd1, hc64, he, hb0]; rfl) ?_)
              | with_reducible refine wp_region (seg_eval (by simp -dsimp -implicitDefEqProofs [hd1, hc64, he, hb0]; rfl) ?_)
              | with_reducible refine wp_drawsS (seg_eval (by simp -dsimp -implicitDefEqProofs [hd1, hc64, he, hb0]; rfl) ?_)
              | with_reducible refine wp_draws (seg_eval (by simp -dsimp -implicitDefEqProofs [hd1, hc64, he, hb0]; rfl) ?_)
              | with_reducible refine seg_fin ?_
              | with_reducible refine seg_pan ?_
              | with_reducible refine seg_both ?_ ?_
              | with_reducible refine seg_case (fun x h => ?_) (fun h => ?_)
              | with_reducible refine seg_gate (fun h => ?_) (fun h => ?_)
              | with_reducible refine seg_need ?_ ?_
              | with_reducible refine wp_assoc ?_ | with_reducible refine wp_skipS ?_ | with_reducible refine wp_retS ?_ | with_reducible refine wp_exitS ?_ | with_reducible refine wp_dropS (wp_eqT (by simp -dsimp -implicitDefEqProofs [hd1, hc64, he, hb0]; rfl) ?_) | with_reducible refine wp_sealS (by simp -dsimp -implicitDefEqProofs [hd1, hc64, he, hb0]; rfl) ?_ | with_reducible refine wp_seal (by simp -dsimp -implicitDefEqProofs [hd1, hc64, he, hb0]; rfl) ?_ | with_reducible refine wp_blockS ?_ | with_reducible refine wp_skip' ?_ | with_reducible refine wp_ret' ?_ | with_reducible refine wp_exit' ?_ | with_reducible refine wp_drop (wp_eqT (by simp -dsimp -implicitDefEqProofs [hd1, hc64, he, hb0]; rfl) ?_) | with_reducible refine wp_block' ?_
              | with_reducible refine wp_condVS (by simp -dsimp -implicitDefEqProofs [hd1, hc64, he, hb0]; rfl) ?_
              | with_reducible refine wp_condV (by simp -dsimp -implicitDefEqProofs [hd1, hc64, he, hb0]; rfl) ?_
              | with_reducible refine cond_t ?_ | with_reducible refine cond_f ?_ | with_reducible refine cond_v (fun h => ?_) (fun h => ?_)
              | with_reducible refine post_then ?_ | with_reducible refine post_thenE ?_ | with_reducible refine post_thenP ?_ | with_reducible refine post_blkP ?_ | with_reducible refine post_thenR ?_ | with_reducible refine post_blkN ?_ | with_reducible refine post_blkE ?_ | with_reducible refine post_blkF rfl ?_ | with_reducible refine post_blkR ?_
              | with_reducible refine seg_eval (by simp -dsimp -implicitDefEqProofs [hd1, hc64, he, hb0]; rfl) ?_
          all_goals first
            | exact ⟨hok, g2⟩
            | exact post_finS rfl rfl (.tup (.cons (.nil 0 4) (.cons (.rfl _) .nil))) ⟨[], [], rfl, rfl, rfl, rfl⟩
            | trace_state
      · obtain ⟨r1, r2⟩ := s2 (fun h => he h.1)
        have he' : (encE fs != 0) = true := by simp [he]
        rw [r1, r2]
        repeat' first
            | with_reducible refine wp_regionS (seg_eval (by simp -dsimp -implicitDefEqProofs [hd1, hc64, he']; rfl) ?_)
            | with_reducible refine wp_region (seg_eval (by simp -dsimp -implicitDefEqProofs [hd1, hc64, he']; rfl) ?_)
            | with_reducible refine wp_drawsS (seg_eval (by simp -dsimp -implicitDefEqProofs [hd1, hc64, he']; rfl) ?_)
            | with_reducible refine wp_draws (seg_eval (by simp -dsimp -implicitDefEqProofs [hd1, hc64, he']; rfl) ?_)
            | with_reducible refine seg_fin ?_
            | with_reducible refine seg_pan ?_
            | with_reducible refine seg_both ?_ ?_
            | with_reducible refine seg_case (fun x h => ?_) (fun h => ?_)
            | with_reducible refine seg_gate (fun h => ?_) (fun h => ?_)
            | with_reducible refine seg_need ?_ ?_
            | with_reducible refine wp_assoc ?_ | with_reducible refine wp_skipS ?_ | with_reducible refine wp_retS ?_ | with_reducible refine wp_exitS ?_ | with_reducible refine wp_dropS (wp_eqT (by simp -dsimp -implicitDefEqProofs [hd1, hc64, he']; rfl) ?_) | with_reducible refine wp_sealS (by simp -dsimp -implicitDefEqProofs [hd1, hc64, he']; rfl) ?_ | with_reducible refine wp_seal (by simp -dsimp -implicitDefEqProofs [hd1, hc64, he']; rfl) ?_ | with_reducible refine wp_blockS ?_ | with_reducible refine wp_skip' ?_ | with_reducible refine wp_ret' ?_ | with_reducible refine wp_exit' ?_ | with_reducible refine wp_drop (wp_eqT (by simp -dsimp -implicitDefEqProofs [hd1, hc64, he']; rfl) ?_) | with_reducible refine wp_block' ?_
            | with_reducible refine wp_condVS (by simp -dsimp -implicitDefEqProofs [hd1, hc64, he']; rfl) ?_
            | with_reducible refine wp_condV (by simp -dsimp -implicitDefEqProofs [hd1, hc64, he']; rfl) ?_
            | with_reducible refine cond_t ?_ | with_reducible refine cond_f ?_ | with_reducible refine cond_v (fun h => ?_) (fun h => ?_)
            | with_reducible refine post_then ?_ | with_reducible refine post_thenE ?_ | with_reducible refine post_thenP ?_ | with_reducible refine post_blkP ?_ | with_reducible refine post_thenR ?_ | with_reducible refine post_blkN ?_ | with_reducible refine post_blkE ?_ | with_reducible refine post_blkF rfl ?_ | with_reducible refine post_blkR ?_
            | with_reducible refine seg_eval (by simp -dsimp -implicitDefEqProofs [hd1, hc64, he']; rfl) ?_
        all_goals first
          | exact ⟨hok, g2⟩
          | exact post_finS rfl rfl (.tup (.cons (.nil 0 4) (.cons (.rfl _) .nil))) ⟨[], [], rfl, rfl, rfl, rfl⟩
          | trace_state

def E21 : Env := E20.put 29 [] (fixS [1] spDecodeR2)
theorem E21_ok : EnvOk Try.prog E21 := Env.put_ok _ E20_ok (decodeR2_ok.fix _)
attribute [simp] E21 spDecodeR2

end Go.Proofs.Ytifchnkhnphibaa.Am
