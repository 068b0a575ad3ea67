/-
  TWO SLICES IN TWO BLOCKS HAVE NOTHING IN COMMON. No program is named here.
-/
import Derived.Test.YtbponegjfccgfaaFL
import Derived.Lib.Overlaps
namespace Go.Proofs.Ytbponegjfccgfaa.Am
set_option linter.unusedSimpArgs false
set_option linter.unusedVariables false
open Go Go.Proofs

def spOver : Spec
  | [.osl 0, .win 1 off n], [.arr t1 s1 es1, .buf t2 s2 es2] => if es1 ≠ [] ∧ es2 ≠ [] then some (.ret (.v (.bool false)), [.arr t1 s1 es1, .buf t2 s2 es2]) else none
  | _, _ => none

theorem over_ext {P : Program} {f : FuncId} {fn : Func} {tS tR e : TypeId} {sz : Nat} (hf : P.funcs[f]? = some fn) (hname : (fn.name == "runtime.NumGoroutine") = false) (hb : fn.body.isNone = true) (hn : Extern.findNext fn = none)
    (he : Extern.find fn = some (Extern.SlicesOverlaps.overlaps #[tS, tS] #[tR])) (ht : P.underlying tS = some (.slice e)) (hz : szOf P e = some sz) : CallOk P f spOver := by
  refine .inr (.inr fun args mem r mem' h => ?_)
  unfold spOver at h
  split at h
  case h_2 => cases h
  rename_i off n t1 s1 es1 t2 s2 es2
  obtain ⟨⟨h1, h2⟩, h3⟩ := if_some h
  cases h3
  refine ⟨rfl, _, rfl, fun O F B w vs hm hc => ⟨.bool false, ?_, .v _⟩⟩
  cases hc with
  | cons a1 a2 =>
    cases a2 with
    | cons a2 a3 =>
      cases a3
      rename_i x y
      obtain ⟨g, p, N, xs, ey, q1, q2, q3, q4, q5, q6, q7, q8, q9⟩ := win_inv (mem := [.arr t1 s1 es1, .buf t2 s2 es2]) (id := 1) rfl hm a2
      subst ey
      cases a1 with
      | @osl _ _ s m cap g1 hl =>
        have hbr := hm.br 0 _ _ rfl hl
        obtain ⟨b1, b2, b3, b4, ys, b5, b6⟩ := hbr
        rcases b5.2 with ⟨_, hnil⟩ | ⟨g', cap', cur, e1, _, e2, e3, e4, e5, e6⟩
        · exact absurd (List.eq_nil_of_length_eq_zero (b3 ▸ hnil)) h1
        · have hg : g1 = some g' ∧ cap = cap' := by
            cases g1 with
            | none => simp [head] at e1
            | some g1 => simp [head] at e1; exact ⟨by rw [e1.1], e1.2⟩
          obtain ⟨rfl, rfl⟩ := hg
          have hne : g' ≠ g := by
            intro hgg
            subst hgg
            have := hm.sep 0 1 g' (ownB_mk (k := .arr t1 s1 es1) rfl hl rfl rfl) (ownB_mk (k := .buf t2 s2 es2) rfl q9 rfl rfl)
            exact absurd this (by decide)
          rw [run_callFunc_extern hf hname hb hn he]
          show ((Extern.SlicesOverlaps.overlaps #[tS, tS] #[tR] #[.slice (some ⟨g', 0, none⟩) m cap, .slice (some ⟨g, p, none⟩) n (es2.length - off)]).run P w).andThen _ = _
          rw [Lib.run_overlaps_apart w tS tR e ht sz (fun w => run_size hz) ⟨g', 0, none⟩ ⟨g, p, none⟩ m cap n (es2.length - off) hne t1 t2 cur.size xs.length (by simp [World.shape?, e2]) (by simp [World.shape?, q6])
            (by
              rw [q8]
              have : es2.length ≠ 0 := fun h => h2 (List.eq_nil_of_length_eq_zero h)
              exact Nat.mul_ne_zero this (by omega))
            (by simp [World.frozen?, e2]) (by simp [World.frozen?, e2])]
          rfl
attribute [simp] spOver
end Go.Proofs.Ytbponegjfccgfaa.Am
