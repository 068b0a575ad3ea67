/-
  HOW LARGE TABLES GROW; what the document fixes of them.
-/
import Derived.Test.YtkbgndebfcjojaaZT12
namespace Go.Proofs.Ytkbgndebfcjojaa.Am
set_option linter.unusedSimpArgs false
set_option linter.unusedVariables false
open Go Go.Proofs
attribute [local irreducible] wpA
attribute [-simp] splice

/-! ### Sizes -/
def bB (k : Nat) (l : List Ba) : Prop := l.length ≤ k ∧ ∀ x ∈ l, x.2 < 65536
def bC (k : Nat) (c : Cs) : Prop := bB k c.es ∧ bB k c.rs
def bT (k : Nat) (t : Tb) : Prop := t.m < 65536 ∧ okV t.b ∧ t.os.length ≤ k ∧ ∀ o ∈ t.os, o.f < 256 ∧ i64r o.q ∧ bC k o.c
theorem bB_up {k j : Nat} {l : List Ba} (h : bB k l) (hj : k ≤ j) : bB j l := ⟨Nat.le_trans h.1 hj, h.2⟩
theorem bC_up {k j : Nat} {c : Cs} (h : bC k c) (hj : k ≤ j) : bC j c := ⟨bB_up h.1 hj, bB_up h.2 hj⟩
theorem bT_up {k j : Nat} {t : Tb} (h : bT k t) (hj : k ≤ j) : bT j t := ⟨h.1, h.2.1, Nat.le_trans h.2.2.1 hj, fun o ho => ⟨(h.2.2.2 o ho).1, (h.2.2.2 o ho).2.1, bC_up (h.2.2.2 o ho).2.2 hj⟩⟩
theorem bT_ok {k : Nat} {t : Tb} (h : bT k t) (hk : k ≤ 1000000) : okTb t :=
  ⟨h.1, h.2.1, Nat.le_trans h.2.2.1 hk, fun o ho => ⟨(h.2.2.2 o ho).1, (h.2.2.2 o ho).2.1, bB_up (h.2.2.2 o ho).2.2.1 hk, bB_up (h.2.2.2 o ho).2.2.2 hk⟩⟩
theorem bB_with {k : Nat} {l : List Ba} (h : bB k l) (w : Nat) (s : ByteArray) : bB (k + 1) (withB l w s) := ⟨by have := len_with l w s; have := h.1; omega, ok_with h.2 w s⟩
theorem bC_ready {k : Nat} {c : Cs} (h : bC k c) (s : ByteArray) : bC k (readyV c s).1 := by
  unfold readyV; split <;> exact h
theorem ready_o (c : Cs) (s : ByteArray) : (readyV c s).2.length ≤ 1 := by unfold readyV; split <;> simp
theorem done_c {k : Nat} {p : Cs × List Ou} (h : bC k p.1) (n many : Int) (s : ByteArray) : bC k (doneV p n many s).c := by unfold doneV; split <;> exact h
theorem done_o (p : Cs × List Ou) (n many : Int) (s : ByteArray) : (doneV p n many s).o = p.2 := by unfold doneV; split <;> rfl
theorem takeV_b {k : Nat} {c : Cs} (h : bC k c) (m f : Nat) (kind : Int) (w : Nat) (s : ByteArray) : bC (k + 1) (takeV c m f kind w s).c := by
  have h1 := bC_up h (Nat.le_succ k)
  unfold takeV
  split
  · exact h1
  · split
    · exact h1
    · split
      · split <;> exact h1
      · split
        · unfold echoV
          have h2 : bC (k + 1) ⟨c.e, c.r, c.d, withB c.es w s, c.rs⟩ := ⟨bB_with h.1 w s, h1.2⟩
          split
          · exact h1
          · split
            · exact bC_ready h2 s
            · exact h2
        · unfold readiedV
          have h2 : bC (k + 1) ⟨c.e, c.r, c.d, c.es, withB c.rs w s⟩ := ⟨h1.1, bB_with h.2 w s⟩
          split
          · exact h1
          · refine done_c ?_ _ _ _
            split
            · exact bC_ready h2 s
            · exact h2
theorem takeV_o (c : Cs) (m f : Nat) (kind : Int) (w : Nat) (s : ByteArray) : (takeV c m f kind w s).o.length ≤ 1 := by
  unfold takeV
  split
  · simp [failV]
  · split
    · simp [failV]
    · split
      · split <;> simp [failV]
      · split
        · unfold echoV
          split
          · simp [failV]
          · split
            · exact ready_o _ _
            · simp
        · unfold readiedV
          split
          · simp [failV]
          · rw [done_o]
            split
            · exact ready_o _ _
            · simp
theorem settle_le : ∀ (k f n : Nat) (l : List Op), n ≤ 1000 → (∀ o ∈ l, okOp o ∧ o.q < 1000) → (settleN k f n l).1 ≤ 1000
  | 0, _, _, _, h, _ => h
  | k + 1, f, n, l, h, ho => by
    unfold settleN
    split
    · rename_i o hf
      split
      · refine settle_le k f (n + 1) _ ?_ fun x hx => ho x (mem_del.1 hx).1
        obtain ⟨h1, h2⟩ := find_some hf
        obtain ⟨⟨a1, a2, a3⟩, a4⟩ := ho o h1
        unfold keyOp at h2
        have : o.f = f ∧ o.q = n ∨ o.f ≠ f := by omega
        omega
      · exact h
    · exact h
theorem settle_mem : ∀ (k f n : Nat) (l : List Op) (o : Op), o ∈ (settleN k f n l).2 → o ∈ l
  | 0, _, _, _, _, h => h
  | k + 1, f, n, l, o, h => by
    unfold settleN at h
    split at h
    · split at h
      · exact (mem_del.1 (settle_mem k f (n + 1) _ o h)).1
      · exact h
    · exact h
theorem settle_len : ∀ (k f n : Nat) (l : List Op), (settleN k f n l).2.length ≤ l.length
  | 0, _, _, _ => Nat.le_refl _
  | k + 1, f, n, l => by
    unfold settleN
    split
    · split
      · exact Nat.le_trans (settle_len k f (n + 1) _) (List.length_filter_le _ _)
      · exact Nat.le_refl _
    · exact Nat.le_refl _
theorem case_b {k : Nat} {l : List Op} (h : ∀ o ∈ l, bC k o.c) (f : Nat) (q : Int) : bC k (caseT l f q) := by
  unfold caseT
  split
  · rename_i o ho; exact h o (find_some ho).1
  · exact ⟨⟨by simp [zCs], by simp [zCs]⟩, by simp [zCs], by simp [zCs]⟩
/-- What becomes of a table. -/
theorem take_ways (t : Tb) (n : Nm) (kind : Int) (w : Nat) (s : ByteArray) : ((takeT t n kind w s).x ≠ 0 ∧ takeT t n kind w s = failT t (takeT t n kind w s).x) ∨
    ((takeT t n kind w s).x = 0 ∧ mayT t n = 0 ∧ (takeV (caseT t.os n.f n.q) t.m n.f kind w s).x = 0 ∧ takeT t n kind w s = doneT t n (takeV (caseT t.os n.f n.q) t.m n.f kind w s) (repK ⟨n.f, n.q, (takeV (caseT t.os n.f n.q) t.m n.f kind w s).c⟩ t.os)) := by
  unfold takeT
  split
  · rename_i h; exact .inl ⟨h, rfl⟩
  · rename_i h
    split
    · rename_i h2; exact .inl ⟨h2, rfl⟩
    · rename_i h2; exact .inr ⟨rfl, by simpa using h, by simpa using h2, rfl⟩
theorem take_b {k : Nat} {t : Tb} (h : bT k t) (n : Nm) (kind : Int) (w : Nat) (s : ByteArray) (hn : n.f < 256) : bT (k + 1) (takeT t n kind w s).t := by
  rcases take_ways t n kind w s with ⟨_, e⟩ | ⟨_, hm, _, e⟩
  · rw [e]; exact bT_up h (Nat.le_succ k)
  · rw [e]
    obtain ⟨hr, hv, hh, h0, h1, _⟩ := may_zero hm
    have hf16 := has_lt h.1 hh
    have hop : ∀ o ∈ repK ⟨n.f, n.q, (takeV (caseT t.os n.f n.q) t.m n.f kind w s).c⟩ t.os, (okOp o ∧ o.q < 1000) ∧ o.f < 256 ∧ i64r o.q ∧ bC (k + 1) o.c := fun o ho => by
      rcases rep_mem ho with rfl | ho
      · exact ⟨⟨⟨by simp only; omega, h0, by simp only; omega⟩, h1⟩, hn, ⟨by simp only; omega, by simp only; omega⟩, takeV_b (case_b (fun o ho => (h.2.2.2 o ho).2.2) _ _) _ _ _ _ _⟩
      · have := right_all hr o ho
        exact ⟨⟨right_ok h.1 this, (rightO_iff.1 this).2.2.2.1⟩, (h.2.2.2 o ho).1, (h.2.2.2 o ho).2.1, bC_up (h.2.2.2 o ho).2.2 (Nat.le_succ k)⟩
    refine ⟨h.1, okV_set h.2.1 ?_, ?_, fun o ho => (hop o (settle_mem _ _ _ _ o ho)).2⟩
    · have := settle_le (repK ⟨n.f, n.q, (takeV (caseT t.os n.f n.q) t.m n.f kind w s).c⟩ t.os).length n.f (baseT t.b n.f) _ (right_base hr hf16).1 fun o ho => (hop o ho).1
      omega
    · refine Nat.le_trans (settle_len _ _ _ _) (Nat.le_trans repK_len ?_)
      have := h.2.2.1; omega
theorem take_o (t : Tb) (n : Nm) (kind : Int) (w : Nat) (s : ByteArray) : (takeT t n kind w s).o.length ≤ 1 := by
  rcases take_ways t n kind w s with ⟨_, e⟩ | ⟨_, _, _, e⟩
  · rw [e]; simp [failT]
  · rw [e]; exact takeV_o _ _ _ _ _ _

/-! ### Answers that the document fixes -/
theorem tc_fix {v m : Int} {b : List Nat} {x : AV} (h : b.length = 16) : fxL [.no, .no, .no, .no, .no, .no, .no, .no, .no, .no, .no, .no, .no, .no, .no, .no, .no, .no, .k 7] (tc v m b x) = tc v m b (fix1 7 x) := by
  match b, h with
  | [_, _, _, _, _, _, _, _, _, _, _, _, _, _, _, _], _ => rfl
attribute [simp high] tc_fix
theorem tc_at0 {v m : Int} {b : List Nat} {x : AV} {n : Nat} (h : b[0]? = some n) : ((tc v m b x).drop 2).take 1 = [.v (.int .u16 n)] := tc_at (i := 0) h
def al1 : List Nat := zV.set 0 1
def xS : ByteArray := ⟨#[120]⟩
theorem okV_zV : okV zV := by decide
theorem base_zV (i : Nat) : baseT zV i = 0 := by
  unfold baseT
  split
  · rename_i n h
    exact List.eq_of_mem_replicate (List.mem_of_getElem? h)
  · rfl
theorem right_zT (m : Nat) : rightT ⟨0, m, zV, []⟩ = true := rightT_iff.2 ⟨by simp, rightV_iff.2 fun i _ => by simp [badV, base_zV], rightL_iff.2 ⟨by simp, fun i p o h => by simp at h⟩⟩
theorem right_al : rightT ⟨0, 1, al1, []⟩ = true := rightT_iff.2 ⟨by simp, by decide, rightL_iff.2 ⟨by simp, fun i p o h => by simp at h⟩⟩
theorem sound_one (b : Ba) : soundB [b] = true := soundB_iff.2 (by simp [SoundL])
theorem takeV_x : takeV zCs 1 0 3 0 xS = ⟨⟨false, true, true, [], [(xS, 1)]⟩, [(3, xS)], xS, true, 0⟩ := by kernel_rfl
theorem aliveA : takeT ⟨0, 1, zV, []⟩ ⟨0, 0, 0⟩ 3 0 xS = ⟨⟨0, 1, al1, []⟩, [(3, xS)], xS, true, 0⟩ := by
  have hm : mayT ⟨0, 1, zV, []⟩ ⟨0, 0, 0⟩ = 0 := by simp [mayT, right_zT, base_zV, hasS]
  have hc : caseT [] 0 0 = zCs := rfl
  have h : takeT ⟨0, 1, zV, []⟩ ⟨0, 0, 0⟩ 3 0 xS = doneT ⟨0, 1, zV, []⟩ ⟨0, 0, 0⟩ (takeV (caseT [] 0 0) 1 0 3 0 xS) (repK ⟨0, 0, (takeV (caseT [] 0 0) 1 0 3 0 xS).c⟩ []) := by
    unfold takeT
    rw [if_neg (by simp [hm])]
    simp only
    rw [hc, takeV_x]
    simp
  rw [h, hc, takeV_x]
  simp [doneT, repK, isK', insK, posK, settleN, findK, delK, keyOp, base_zV, al1]
theorem aliveB : takeT ⟨0, 1, al1, []⟩ ⟨0, 0, 9⟩ 3 0 xS = ⟨⟨0, 1, al1, []⟩, [], noS, false, 7⟩ := by
  have hm : mayT ⟨0, 1, al1, []⟩ ⟨0, 0, 9⟩ = 7 := by
    have : baseT al1 0 = 1 := by decide
    simp [mayT, right_al, this, hasS]
  unfold takeT
  rw [if_pos (by simp [hm]), hm]
  rfl
theorem aliveC : takeT ⟨0, 1, al1, []⟩ ⟨0, 0, 0⟩ 3 0 xS = ⟨⟨0, 1, al1, []⟩, [], noS, false, 6⟩ := by
  have hm : mayT ⟨0, 1, al1, []⟩ ⟨0, 0, 0⟩ = 6 := by
    have : baseT al1 0 = 1 := by decide
    simp [mayT, right_al, this, hasS]
  unfold takeT
  rw [if_pos (by simp [hm]), hm]
  rfl
theorem takeTAt (t : Tb) (n : Nm) (k : Int) (w : Nat) (s : ByteArray) (h : okTb t) (hn : n.f < 256) (hw : w < 256) : spTakeT [avTb t, avNm n, .v (.int .i64 k), .v (.int .u8 (w : Nat)), .v (.string s)] [] = some (.ret (avTt (takeT t n k w s)), []) := by
  obtain ⟨v, m, b, l⟩ := t
  obtain ⟨nv, nf, nq⟩ := n
  simp only at hn
  have hw' : (w : Int) < 256 := by omega
  simp [spTakeT, avTb, avNm, h, hn, hw', Int.toNat_natCast]
theorem rightTAt (t : Tb) (h : okTb t) : spRightT [avTb t] [] = some (.ret (.v (.bool (rightT t))), []) := by
  obtain ⟨v, m, b, l⟩ := t
  simp [spRightT, avTb, h]
def spAlive : Spec
  | [], [] => some (.ret (.v (.bool true)), [])
  | _, _ => none
theorem ok_al (b : List Nat) (h : okV b) : okTb ⟨0, 1, b, []⟩ := ⟨by simp only; omega, h, by simp, by simp⟩
set_option maxHeartbeats 8000000 in
theorem alive_ok : CallOk Try.prog 10 spAlive := by
  refine ok_10 (Env.put_ok [] (Env.put_ok [] (Env.none_ok _) (CallOk.fixD [.agg [.no, .no, .no, .no, .no, .no, .no, .no, .no, .no, .no, .no, .no, .no, .no, .no, .no, .no, .k 7]] takeT_ok)) rightT_ok) spAlive fun args mem r mem1 h => ?_
  unfold spAlive at h
  split at h
  case h_2 => cases h
  cases h
  have hal : okV al1 := by decide
  have t1 : spTakeT [.agg (tc 0 1 zV (.fsl 7 [])), .agg [.v (.int .i64 0), .v (.int .u8 0), .v (.int .i64 0)], .v (.int .i64 3), .v (.int .u8 0), .v (.string ⟨#[120]⟩)] [] =
      some (.ret (.tup [.agg (tc 0 1 al1 (.fsl 7 [])), .fsl 2 [.agg [.v (.int .i64 3), .v (.string ⟨#[120]⟩)]], .v (.string ⟨#[120]⟩), .v (.bool true), .v (.int .i64 0)]), []) := by
    have := takeTAt ⟨0, 1, zV, []⟩ ⟨0, 0, 0⟩ 3 0 xS (ok_al _ okV_zV) (by decide) (by decide)
    rw [aliveA] at this
    exact this
  have t2 : spTakeT [.agg (tc 0 1 al1 (.fsl 7 [])), .agg [.v (.int .i64 0), .v (.int .u8 0), .v (.int .i64 9)], .v (.int .i64 3), .v (.int .u8 0), .v (.string ⟨#[120]⟩)] [] =
      some (.ret (.tup [.agg (tc 0 1 al1 (.fsl 7 [])), .fsl 2 [], .v (.string ⟨#[]⟩), .v (.bool false), .v (.int .i64 7)]), []) := by
    have := takeTAt ⟨0, 1, al1, []⟩ ⟨0, 0, 9⟩ 3 0 xS (ok_al _ hal) (by decide) (by decide)
    rw [aliveB] at this
    exact this
  have t3 : spTakeT [.agg (tc 0 1 al1 (.fsl 7 [])), .agg [.v (.int .i64 0), .v (.int .u8 0), .v (.int .i64 0)], .v (.int .i64 3), .v (.int .u8 0), .v (.string ⟨#[120]⟩)] [] =
      some (.ret (.tup [.agg (tc 0 1 al1 (.fsl 7 [])), .fsl 2 [], .v (.string ⟨#[]⟩), .v (.bool false), .v (.int .i64 6)]), []) := by
    have := takeTAt ⟨0, 1, al1, []⟩ ⟨0, 0, 0⟩ 3 0 xS (ok_al _ hal) (by decide) (by decide)
    rw [aliveC] at this
    exact this
  have t4 : spRightT [.agg (tc 0 1 al1 (.fsl 7 []))] [] = some (.ret (.v (.bool true)), []) := by
    have := rightTAt ⟨0, 1, al1, []⟩ (ok_al _ hal)
    rw [right_al] at this
    exact this
  have l1 : al1.length = 16 := hal.1
  have hat : ∀ x : AV, ((tc 0 1 al1 x).drop 2).take 1 = [.v (.int .u16 1)] := fun x => tc_at0 (n := 1) (by decide)
  have hxx : ((⟨#[120]⟩ : ByteArray) == ⟨#[120]⟩) = true := by rw [beq_bytes]; simp
  unfold ac_10
  repeat' with_reducible first
  | refine stp ?_ | refine seg_both ?_ ?_ | refine seg_case (fun x h => ?_) (fun h => ?_) | refine seg_gate (fun h => ?_) (fun h => ?_) | refine seg_need ?_ ?_ | refine cond_v (fun h => ?_) (fun h => ?_)
  | refine seg_eval (by simp -dsimp -implicitDefEqProofs [zV_length, t1, t2, t3, t4, l1, hat, fix1, List.isEmpty, hxx]; rfl) ?_
  all_goals first
    | exact post_fin rfl rfl ⟨[], [], rfl, rfl, rfl, rfl⟩
    | trace_state
end Go.Proofs.Ytkbgndebfcjojaa.Am
