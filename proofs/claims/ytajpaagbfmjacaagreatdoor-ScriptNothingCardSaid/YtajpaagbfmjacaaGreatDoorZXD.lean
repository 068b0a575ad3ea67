/-
  BODIES THAT DEFER A CLOSURE WHICH RECOVERS, where nothing panics.
-/
import Derived.Test.YtajpaagbfmjacaaGreatDoorZXA
import Derived.Test.YtajpaagbfmjacaaGreatDoorZXE
import Derived.Tactics
import Derived.Tactics2
import Derived.Laws.Pointers
namespace Go.Proofs.YtajpaagbfmjacaaGreatDoor.Am
set_option linter.unusedSimpArgs false
set_option linter.unusedVariables false
open Go Go.Proofs

theorem catchD : Catches Tryz.prog 147 (fun _ => none) := by
  have hn : Tryz.f147.ntmps = 6 := rfl
  have hr : Tryz.f147.results = #[] := rfl
  constructor
  · intro b1 b2 w
    refine callsD_of_wpS (fn := Tryz.f147) (by kernel_rfl) rfl fun c₀ cs hu => ?_
    have hc₀ : ({ c₀ with mode := .returning } : Frame) = c₀ := by rw [← hu]
    apply wpS_seq
    apply wpS_region
    simp [wpOpsS, go_sem, recoverD, hu, Exit.thenS, hn]
    apply wpS_seq
    apply wpS_region
    simp [wpOpsS, go_sem, Exit.thenS, cellP, Array.replicate]
    refine wpS_cond (t := false) (by simp [Act.eval]) ?_
    simp only [Bool.false_eq_true, if_false]
    refine wpS_of_wp (wp_skip ?_)
    simp [bodyPostS, results, hr, hc₀]
    exact ⟨.returning, hc₀.symm, rfl, Go.RowKit.Below.refl _ _⟩
  · intro b1 b2 w F B v x y1 y2 z1 z2 t1 t2 hv he
    cases he
theorem below_alloc (w : World) (o : Obj) : Go.RowKit.Below w.heap.size w (w.alloc o) := ⟨rfl, rfl, rfl, by show w.heap.size ≤ (w.heap.push o).size; simp, fun j hj => alloc_old w o j hj⟩
theorem assertS (w : World) : (Instr.typeAssert Value.nilIface 20 206 true).run Tryz.prog w = .ok (.tuple #[.agg #[.int .i64 0], .bool false]) w := by kernel_rfl
theorem catchS : Catches Tryz.prog 107 (fun _ => none) := by
  have hn : Tryz.f107.ntmps = 12 := rfl
  have hr : Tryz.f107.results = #[] := rfl
  constructor
  · intro b1 b2 w
    refine callsD_of_wpS (fn := Tryz.f107) (by kernel_rfl) rfl fun c₀ cs hu => ?_
    have hc₀ : ({ c₀ with mode := .returning } : Frame) = c₀ := by rw [← hu]
    apply wpS_seq
    apply wpS_region
    simp [wpOpsS, go_sem, recoverD, hu, Exit.thenS, hn, assertS]
    apply wpS_seq
    apply wpS_region
    simp [wpOpsS, go_sem, Exit.thenS, cellP, Array.replicate]
    refine wpS_cond (t := false) (by simp [Act.eval]) ?_
    simp only [Bool.false_eq_true, if_false]
    refine wpS_of_wp (wp_skip ?_)
    simp [bodyPostS, results, hr, hc₀]
    exact ⟨.returning, hc₀.symm, rfl, below_alloc _ _⟩
  · intro b1 b2 w F B v x y1 y2 z1 z2 t1 t2 hv he
    cases he

noncomputable def partX (P : Program) (c : Code) (n : Nt) : ACode := ((compCode P c).bind (noted n)).getD .skip
theorem partX_ok {P : Program} {c : Code} {n : Nt} (h : ((compCode P c).bind (noted n)).isSome = true) : compCode P c = some (partX P c n).plain ∧ (partX P c n).pairs.map Prod.fst = (partX P c n).pairs.map Prod.snd := by
  unfold partX
  cases hc : compCode P c with
  | none => rw [hc] at h; cases h
  | some a =>
    rw [hc] at h
    cases hn : noted n a with
    | none => simp [hn] at h
    | some ac =>
      obtain ⟨e1, e2⟩ := noted_ok n a ac hn
      simp only [Option.bind_some, hn, Option.getD_some]
      exact ⟨by rw [e1, code_plain c a hc], e2⟩

def ntS : Nt := (.q (.q .i (.c (.x [0, 9] (.q .i .i)) (.x [9] .i))) (.q .i (.q .i (.q (.b (.q .i (.c (.x [4, 5, 15] (.q .i .i)) (.x [15] (.q .i (.c (.x [4, 23] (.q .i .i)) (.x [23] .i))))))) (.q .i .i)))))
noncomputable def ac0S : ACode := partX Tryz.prog (Am.dfr0 (Tryz.f84.body.getD .skip)) .i
noncomputable def acS : ACode := partX Tryz.prog (Am.dfr2 (Tryz.f84.body.getD .skip)) ntS
noncomputable def rsS : List ARes := (Tryz.f84.results.toList.mapM (compRes Tryz.prog)).getD []
noncomputable def spS (Γ : Env) (fuel : Nat) : Spec := deferX Γ fuel ac0S acS rsS 2 3 6
theorem spS_ok {Γ : Env} {fuel : Nat} (hΓ : EnvOk Tryz.prog Γ) : CallOk Tryz.prog 84 (spS Γ fuel) := by
  have h0 := partX_ok (P := Tryz.prog) (c := Am.dfr0 (Tryz.f84.body.getD .skip)) (n := .i) (by kernel_rfl)
  have h1 := partX_ok (P := Tryz.prog) (c := Am.dfr2 (Tryz.f84.body.getD .skip)) (n := ntS) (by kernel_rfl)
  exact deferX_ok (fn := Tryz.f84) (c0 := Am.dfr0 (Tryz.f84.body.getD .skip)) (c := Am.dfr2 (Tryz.f84.body.getD .skip)) (eff := fun _ => none) hΓ mix_ok (by kernel_rfl) rfl
    h0.1 ⟨by kernel_rfl, h0.2⟩ h1.1 ⟨by kernel_rfl, h1.2⟩ (by kernel_rfl) (by kernel_rfl) rfl rfl rfl rfl rfl rfl (by decide) (by decide) (by decide) (by decide) ⟨Tryz.f107, by kernel_rfl, by kernel_rfl, by kernel_rfl⟩ catchS

def ntD : Nt := (.q (.q .i (.c (.x [9] .i) (.x [9] .i))) (.q .i (.q .i (.q (.q .i (.b (.l [2, 3, 4, 5, 20, 21] (.q .i (.q (.c (.x [22] .i) (.x [20, 21, 22] .i)) (.q (.b (.d (.t 1 (.a 0 (.a 2 (.a 3 (.a 4 (.a 5 .d .s) .s) .s) .s) (.a 2 (.a 0 (.a 3 (.a 4 (.a 5 .d .s) .s) .s) (.a 3 (.a 0 (.a 4 (.a 5 .d .s) .s) .s) .s)) .s))))) .i)))))) (.q (.q .i (.c (.x [38] .i) (.x [38] .i))) (.q .i .i))))))
noncomputable def ac0D : ACode := partX Tryz.prog (Am.dfr0 (Tryz.f127.body.getD .skip)) .i
noncomputable def acD : ACode := partX Tryz.prog (Am.dfr2 (Tryz.f127.body.getD .skip)) ntD
noncomputable def rsD : List ARes := (Tryz.f127.results.toList.mapM (compRes Tryz.prog)).getD []
noncomputable def spD (Γ : Env) (fuel : Nat) : Spec := deferX Γ fuel ac0D acD rsD 2 3 6
theorem spD_ok {Γ : Env} {fuel : Nat} (hΓ : EnvOk Tryz.prog Γ) : CallOk Tryz.prog 127 (spD Γ fuel) := by
  have h0 := partX_ok (P := Tryz.prog) (c := Am.dfr0 (Tryz.f127.body.getD .skip)) (n := .i) (by kernel_rfl)
  have h1 := partX_ok (P := Tryz.prog) (c := Am.dfr2 (Tryz.f127.body.getD .skip)) (n := ntD) (by kernel_rfl)
  exact deferX_ok (fn := Tryz.f127) (c0 := Am.dfr0 (Tryz.f127.body.getD .skip)) (c := Am.dfr2 (Tryz.f127.body.getD .skip)) (eff := fun _ => none) hΓ mix_ok (by kernel_rfl) rfl
    h0.1 ⟨by kernel_rfl, h0.2⟩ h1.1 ⟨by kernel_rfl, h1.2⟩ (by kernel_rfl) (by kernel_rfl) rfl rfl rfl rfl rfl rfl (by decide) (by decide) (by decide) (by decide) ⟨Tryz.f147, by kernel_rfl, by kernel_rfl, by kernel_rfl⟩ catchD
end Go.Proofs.YtajpaagbfmjacaaGreatDoor.Am
