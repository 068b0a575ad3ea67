/-
  FRAMES, plainly: no program in sight.
-/
import Derived.Test.YtbhbpahbopjfeaaP4
namespace Go.Proofs.Ytbhbpahbopjfeaa.Am
set_option linter.unusedSimpArgs false
set_option linter.unusedVariables false
open Go

/-- A vote, in the broadcast of a name, for a body. -/
structure Frm where
  view : Int
  from_ : Int
  seq : Int
  kind : Int
  body : ByteArray

def avF (f : Frm) : AV := .agg [.v (.int .i64 f.view), .v (.int .u8 f.from_), .v (.int .i64 f.seq), .v (.int .i64 f.kind), .v (.string f.body)]
def rightB (f : Frm) : Bool := decide (0 ≤ f.view ∧ f.view ≤ 1000 ∧ f.from_ < 16 ∧ 0 ≤ f.seq ∧ f.seq < 1000 ∧ 1 ≤ f.kind ∧ f.kind ≤ 3 ∧ f.body.size ≤ 900)
theorem rightB_iff (f : Frm) : rightB f = true ↔ 0 ≤ f.view ∧ f.view ≤ 1000 ∧ f.from_ < 16 ∧ 0 ≤ f.seq ∧ f.seq < 1000 ∧ 1 ≤ f.kind ∧ f.kind ≤ 3 ∧ f.body.size ≤ 900 := by simp [rightB]

def nF (n : Nat) : Fld := ⟨1, n, ⟨#[]⟩, 0⟩
def tF (t : ByteArray) : Fld := ⟨2, 0, t, 0⟩
def frmL (f : Frm) : List Fld := [nF f.view.toNat, nF f.from_.toNat, nF f.seq.toNat, nF f.kind.toNat, tF f.body]
def frmOf : List Fld → Frm
  | [a, b, c, d, e] => ⟨a.num, b.num, c.num, d.num, e.text⟩
  | _ => ⟨0, 0, 0, 0, ⟨#[]⟩⟩
def zeroF : Frm := ⟨0, 0, 0, 0, ⟨#[]⟩⟩

theorem may_nF (n : Nat) : may (nF n) = true := by
  have : ((⟨#[]⟩ : ByteArray) == ⟨#[]⟩) = true := by decide
  simp [may, nF, this]
theorem may_tF {t : ByteArray} (h : t.size ≤ 2000) : may (tF t) = true := by simp [may, tF, h]

theorem enc_nF {n : Nat} (h : n < 65536) : (encF (nF n)).length ≤ 4 := by
  have := (nlen_le 2 n).2 (by omega)
  simp [encF, nF, numB_length]; omega
theorem enc_tF {t : ByteArray} (h : t.size ≤ 900) : (encF (tF t)).length ≤ 904 := by
  have := (nlen_le 2 t.size).2 (by omega)
  simp [encF, tF, numB_length, tb_length]; omega

theorem frm_may {f : Frm} (h : rightB f = true) : ∀ g ∈ frmL f, may g = true ∧ g.ok = true := by
  rw [rightB_iff] at h
  intro g hg
  simp only [frmL, List.mem_cons, List.not_mem_nil, or_false] at hg
  rcases hg with rfl | rfl | rfl | rfl | rfl
  · exact ⟨may_nF _, by rw [Fld.ok_iff]; simp only [nF]; omega⟩
  · exact ⟨may_nF _, by rw [Fld.ok_iff]; simp only [nF]; omega⟩
  · exact ⟨may_nF _, by rw [Fld.ok_iff]; simp only [nF]; omega⟩
  · exact ⟨may_nF _, by rw [Fld.ok_iff]; simp only [nF]; omega⟩
  · exact ⟨may_tF (by omega), by rw [Fld.ok_iff]; simp only [tF]; omega⟩

theorem frm_len {f : Frm} (h : rightB f = true) : (encAll (frmL f)).length ≤ 1000 := by
  rw [rightB_iff] at h
  have h1 := enc_nF (n := f.view.toNat) (by omega)
  have h2 := enc_nF (n := f.from_.toNat) (by omega)
  have h3 := enc_nF (n := f.seq.toNat) (by omega)
  have h4 := enc_nF (n := f.kind.toNat) (by omega)
  have h5 := enc_tF (t := f.body) (by omega)
  simp only [encAll, frmL, flatE, List.length_cons, List.length_append, List.length_nil]
  omega

theorem frm_enc {f : Frm} (h : rightB f = true) : encE (frmL f) = 0 :=
  encE_of (fun g hg => (frm_may h g hg).1) (by simp [frmL]) (by have := frm_len h; omega)
theorem frm_ok {f : Frm} (h : rightB f = true) : ∀ g ∈ frmL f, g.ok = true := fun g hg => (frm_may h g hg).2
theorem frm_all {f : Frm} (h : rightB f = true) : (frmL f).all Fld.ok = true := List.all_eq_true.2 (frm_ok h)
theorem frm_size {f : Frm} (h : rightB f = true) : (enc (frmL f)).length ≤ 1000 := by
  rw [(encE_zero (frm_enc h)).2.2.2]; exact frm_len h

theorem frmOf_frmL {f : Frm} (h : rightB f = true) (h0 : 0 ≤ f.from_) : frmOf (frmL f) = f := by
  rw [rightB_iff] at h
  cases f
  simp only [frmOf, frmL, nF, tF, Frm.mk.injEq, and_true]
  simp only at h h0
  omega

def frB (f : Frm) : List UInt8 := if rightB f = true then enc (frmL f) else []
def frE (f : Frm) : Nat := if rightB f = true then 0 else 2

/-- The frame of bytes. -/
def frDec (b : List UInt8) : Option Frm := (dec b).bind fun l => if l.map Fld.kind = [1, 1, 1, 1, 2] ∧ rightB (frmOf l) = true then some (frmOf l) else none
def frF (b : List UInt8) : Frm := (frDec b).getD zeroF
def frG (b : List UInt8) : Nat := if (frDec b).isSome then 0 else 4

theorem nF_of {f : Fld} (h : may f = true) (hk : f.kind = 1) : f = nF f.num := by
  cases f
  simp only at hk
  subst hk
  simp only [may, Bool.or_eq_true, Bool.and_eq_true, beq_iff_eq, beq_bytes] at h
  simp only [nF, Fld.mk.injEq, true_and]
  rcases h with h | h | h
  · exact ⟨h.2.1, h.2.2⟩
  · omega
  · omega
theorem tF_of {f : Fld} (h : may f = true) (hk : f.kind = 2) : f = tF f.text := by
  have := may_text h hk
  cases f
  simp only at hk this
  simp [tF, hk, this.1, this.2.1]

theorem five {α : Type} {l : List α} (h : l.length = 5) : ∃ a b c d e, l = [a, b, c, d, e] := by
  match l, h with
  | [a, b, c, d, e], _ => exact ⟨a, b, c, d, e, rfl⟩
theorem kinds_five {l : List Fld} (h : l.map Fld.kind = [1, 1, 1, 1, 2]) (hm : ∀ f ∈ l, may f = true) : ∃ (a b c d : Nat) (t : ByteArray), l = [nF a, nF b, nF c, nF d, tF t] := by
  obtain ⟨a, b, c, d, e, rfl⟩ := five (by have := congrArg List.length h; simpa using this)
  simp only [List.map_cons, List.map_nil, List.cons.injEq, and_true] at h
  obtain ⟨h1, h2, h3, h4, h5⟩ := h
  refine ⟨a.num, b.num, c.num, d.num, e.text, ?_⟩
  rw [← nF_of (hm a (by simp)) h1, ← nF_of (hm b (by simp)) h2, ← nF_of (hm c (by simp)) h3, ← nF_of (hm d (by simp)) h4, ← tF_of (hm e (by simp)) h5]

theorem frDec_iff (b : List UInt8) (f : Frm) : frDec b = some f ↔ rightB f = true ∧ 0 ≤ f.from_ ∧ dec b = some (frmL f) := by
  constructor
  · intro h
    obtain ⟨l, hl, h2⟩ := Option.bind_eq_some_iff.1 h
    obtain ⟨⟨hk, hr⟩, h3⟩ := if_some h2
    cases h3
    obtain ⟨h1, -, -⟩ := enc_dec hl
    obtain ⟨a, b', c, d, t, rfl⟩ := kinds_five hk (encE_zero h1).1
    refine ⟨hr, ?_, ?_⟩
    · simp only [frmOf]; omega
    · rw [hl]; simp [frmL, frmOf, nF, tF]
  · rintro ⟨hr, h0, hd⟩
    unfold frDec
    rw [hd, Option.bind_some, if_pos ⟨by simp [frmL, nF, tF], by rw [frmOf_frmL hr h0]; exact hr⟩, frmOf_frmL hr h0]

theorem frDec_enc {f : Frm} (hr : rightB f = true) (h0 : 0 ≤ f.from_) : frDec (enc (frmL f)) = some f :=
  (frDec_iff _ _).2 ⟨hr, h0, dec_enc (frm_enc hr) (frm_ok hr)⟩
theorem enc_frDec {b : List UInt8} {f : Frm} (h : frDec b = some f) : rightB f = true ∧ 0 ≤ f.from_ ∧ enc (frmL f) = b := by
  obtain ⟨h1, h2, h3⟩ := (frDec_iff _ _).1 h
  exact ⟨h1, h2, (enc_dec h3).2.1⟩
theorem frm_inj {f g : Frm} (h1 : rightB f = true) (h2 : rightB g = true) (o1 : 0 ≤ f.from_) (o2 : 0 ≤ g.from_) (h : enc (frmL f) = enc (frmL g)) : f = g := by
  have e1 := frDec_enc h1 o1
  rw [h, frDec_enc h2 o2] at e1
  exact (Option.some.inj e1).symm

/-! ### As the program clips -/
def clip1 (a b c d : Nat) (t : ByteArray) : Frm := ⟨(min a 1001 : Nat), (min (min b 1001) 16 : Nat), (min c 1001 : Nat), (min d 1001 : Nat), t⟩
theorem frDec_clip1 {s : List UInt8} {a b c d : Nat} {t : ByteArray} (h : dec s = some [nF a, nF b, nF c, nF d, tF t]) :
    frDec s = if rightB (clip1 a b c d t) = true then some (clip1 a b c d t) else none := by
  have e : rightB (clip1 a b c d t) = true ↔ rightB ⟨a, b, c, d, t⟩ = true := by
    simp only [rightB_iff, clip1]; omega
  have e2 : rightB (clip1 a b c d t) = true → clip1 a b c d t = ⟨a, b, c, d, t⟩ := by
    intro h
    rw [rightB_iff] at h
    simp only [clip1] at h
    simp only [clip1, Frm.mk.injEq, and_true]
    omega
  unfold frDec
  rw [h, Option.bind_some]
  by_cases hr : rightB (clip1 a b c d t) = true
  · rw [if_pos hr, if_pos ⟨by simp [nF, tF], by simp only [frmOf]; exact e.1 hr⟩, e2 hr]; simp [frmOf, nF, tF]
  · rw [if_neg hr, if_neg]
    rintro ⟨-, h2⟩
    exact hr (e.2 h2)

/-! ### As the document clips -/
def clip2 (a b c d e : Fld) : Frm := ⟨(min a.num 9999 : Nat), (min b.num 99 : Nat), (min c.num 9999 : Nat), (min d.num 9 : Nat), e.text⟩
theorem frDec_clip2 {s : List UInt8} {a b c d e : Fld} (h : dec s = some [a, b, c, d, e]) :
    frDec s = if rightB (clip2 a b c d e) = true ∧ enc (frmL (clip2 a b c d e)) = s then some (clip2 a b c d e) else none := by
  by_cases hc : rightB (clip2 a b c d e) = true ∧ enc (frmL (clip2 a b c d e)) = s
  · rw [if_pos hc]
    have := frDec_enc hc.1 (show 0 ≤ (clip2 a b c d e).from_ by simp only [clip2]; omega)
    rwa [hc.2] at this
  · rw [if_neg hc]
    cases hd : frDec s with
    | none => rfl
    | some f =>
      exfalso
      apply hc
      obtain ⟨h1, h2, h3⟩ := (frDec_iff _ _).1 hd
      rw [h] at h3
      have h4 := Option.some.inj h3
      have h5 := (rightB_iff f).1 h1
      simp only [frmL, List.cons.injEq, and_true] at h4
      obtain ⟨rfl, rfl, rfl, rfl, rfl⟩ := h4
      have : clip2 (nF f.view.toNat) (nF f.from_.toNat) (nF f.seq.toNat) (nF f.kind.toNat) (tF f.body) = f := by
        cases f
        simp only [clip2, nF, tF, Frm.mk.injEq, and_true] at *
        omega
      rw [this]
      exact ⟨h1, (enc_frDec hd).2.2⟩
theorem frDec_not5 {s : List UInt8} {l : List Fld} (h : dec s = some l) (h5 : l.length ≠ 5) : frDec s = none := by
  unfold frDec
  rw [h, Option.bind_some, if_neg]
  rintro ⟨hk, -⟩
  have := congrArg List.length hk
  simp at this
  exact h5 this
theorem frDec_kinds {s : List UInt8} {l : List Fld} (h : dec s = some l) (h5 : l.map Fld.kind ≠ [1, 1, 1, 1, 2]) : frDec s = none := by
  unfold frDec
  rw [h, Option.bind_some, if_neg]
  rintro ⟨hk, -⟩
  exact h5 hk
theorem frDec_none {s : List UInt8} (h : dec s = none) : frDec s = none := by simp [frDec, h]
end Go.Proofs.Ytbhbpahbopjfeaa.Am
