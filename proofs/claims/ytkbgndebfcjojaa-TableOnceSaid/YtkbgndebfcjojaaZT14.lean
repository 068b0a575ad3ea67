/-
  VOTES AS THE LAWS HAVE THEM.
-/
import Derived.Test.YtkbgndebfcjojaaZT13
namespace Go.Proofs.Ytkbgndebfcjojaa.Am
set_option linter.unusedSimpArgs false
set_option linter.unusedVariables false
open Go Go.Proofs
attribute [local irreducible] wpA
attribute [-simp] splice

structure Ac where
  n : Nm
  k : Int
  w : Nat
  s : ByteArray
def avAc (a : Ac) : AV := .agg [.v (.int .i64 a.n.v), .v (.int .u8 (a.n.f : Nat)), .v (.int .i64 a.n.q), .v (.int .i64 a.k), .v (.int .u8 (a.w : Nat)), .v (.string a.s)]
theorem inj_avAc {x y : Ac} (h : avAc x = avAc y) : x = y := by
  obtain ⟨⟨v, f, q⟩, k, w, s⟩ := x; obtain ⟨⟨v', f', q'⟩, k', w', s'⟩ := y
  simp only [avAc, AV.agg.injEq, List.cons.injEq, AV.v.injEq, Value.int.injEq, Value.string.injEq, true_and, and_true] at h
  obtain ⟨h1, h2, h3, h4, h5, h6⟩ := h
  have h2 : f = f' := by omega
  have h5 : w = w' := by omega
  subst h1 h2 h3 h4 h5 h6
  rfl
theorem un_ac (v : Int) (f : Nat) (q k : Int) (w : Nat) (s : ByteArray) : un avAc (.agg [.v (.int .i64 v), .v (.int .u8 (f : Nat)), .v (.int .i64 q), .v (.int .i64 k), .v (.int .u8 (w : Nat)), .v (.string s)]) = some ⟨⟨v, f, q⟩, k, w, s⟩ :=
  un_av (av := avAc) (fun _ _ h => inj_avAc h) ⟨⟨v, f, q⟩, k, w, s⟩
def avAcs (l : List Ac) : AV := .fsl 6 (l.map avAc)
theorem map_avAc : ∀ {l m : List Ac}, l.map avAc = m.map avAc → l = m
  | [], [], _ => rfl
  | [], _ :: _, h => by simp at h
  | _ :: _, [], h => by simp at h
  | a :: l, b :: m, h => by
    simp only [List.map_cons, List.cons.injEq] at h
    rw [inj_avAc h.1, map_avAc h.2]
theorem un_acs (l : List Ac) : un avAcs (.fsl 6 (l.map avAc)) = some l := un_av (av := avAcs) (fun x y h => by simp only [avAcs, AV.fsl.injEq, true_and] at h; exact map_avAc h) l
attribute [simp] un_ac un_acs
def okAc (a : Ac) : Prop := a.n.f < 256 ∧ i64r a.n.q ∧ a.w < 256

/-- A table as a caller hands it. -/
def rdTb (t : Tb) : Prop := t.m < 65536 ∧ okV t.b ∧ t.os.length ≤ 9223372036854775807 ∧ ∀ o ∈ t.os, o.f < 256 ∧ i64r o.q ∧ (∀ x ∈ o.c.es, x.2 < 65536) ∧ ∀ x ∈ o.c.rs, x.2 < 65536
theorem rd_few {t : Tb} (h : rdTb t) (hf : fewT t = true) : bT 40 t := by
  obtain ⟨h1, h2⟩ := few_iff.1 hf
  refine ⟨h.1, h.2.1, h2, fun o ho => ?_⟩
  obtain ⟨a1, a2, a3, a4⟩ := h.2.2.2 o ho
  obtain ⟨b1, b2⟩ := h1 o ho
  exact ⟨a1, a2, ⟨by omega, a3⟩, by omega, a4⟩
theorem bT_zero {m : Nat} (h : m < 65536) : bT 0 ⟨0, m, zV, []⟩ := ⟨h, okV_zV, by simp, by simp⟩
theorem sameT_self (t : Tb) : same t t = true := same_self t
/-- A member's bit, as the laws ask for it. -/
theorem shr_has {m f : Nat} : ((((m : Int) / 2 ^ f).tmod 2 == 0) : Bool) = !hasS m f := by
  have e : (m : Int) / 2 ^ f = ((m / 2 ^ f : Nat) : Int) := by
    rw [Int.natCast_ediv, Int.natCast_pow]; rfl
  rw [e, Int.tmod_eq_emod_of_nonneg (Int.natCast_nonneg _)]
  have e2 : hasS m f = decide ((m / 2 ^ f) % 2 = 1) := by unfold hasS; rw [Nat.testBit_eq_decide_div_mod_eq]
  rw [e2]
  rw [Bool.eq_iff_iff]
  simp only [beq_iff_eq, Bool.not_eq_true', decide_eq_false_iff_not]
  omega
theorem done_x (p : Cs × List Ou) (n many : Int) (s : ByteArray) : (doneV p n many s).x = 0 := by unfold doneV; split <;> rfl
theorem takeV_x0 (c : Cs) (m f : Nat) (kind : Int) (w : Nat) (s : ByteArray) : 0 ≤ (takeV c m f kind w s).x ∧ (takeV c m f kind w s).x ≤ 11 := by
  unfold takeV
  split
  · simp [failV]
  · split
    · simp [failV]
    · split
      · split <;> simp [failV]
      · split
        · unfold echoV
          split
          · simp [failV]
          · split <;> simp
        · unfold readiedV
          split
          · simp [failV]
          · rw [done_x]; omega
theorem take_x (t : Tb) (n : Nm) (kind : Int) (w : Nat) (s : ByteArray) : 0 ≤ (takeT t n kind w s).x ∧ (takeT t n kind w s).x ≤ 11 := by
  unfold takeT
  split
  · show 0 ≤ mayT t n ∧ mayT t n ≤ 11
    unfold mayT
    repeat' split
    all_goals omega
  · split
    · exact takeV_x0 _ _ _ _ _ _
    · exact ⟨Int.le_refl 0, by show (0 : Int) ≤ 11; omega⟩
end Go.Proofs.Ytkbgndebfcjojaa.Am
