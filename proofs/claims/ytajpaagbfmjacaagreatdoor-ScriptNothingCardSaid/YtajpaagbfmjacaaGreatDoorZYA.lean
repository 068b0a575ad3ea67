/-
  RUNS BY THE KERNEL, a call at a time: what is known of one call serves the calls above it.
-/
import Derived.Test.YtajpaagbfmjacaaGreatDoorZXD
import Derived.Test.YtajpaagbfmjacaaGreatDoorZDL
namespace Go.Proofs.YtajpaagbfmjacaaGreatDoor.Am
set_option linter.unusedSimpArgs false
set_option linter.unusedVariables false
open Go Go.Proofs

def spFact (a0 : List AV) (m0 : List Blk) (x : Res × List Blk) : Spec := fun a m => if eqAVs a a0 = true ∧ eqMem m m0 = true then some x else none
def spOr (s t : Spec) : Spec := fun a m => match s a m with
  | some x => some x
  | none => t a m
theorem CallOk.sub {P : Program} {f : FuncId} {s t : Spec} (h : CallOk P f t) (hs : ∀ a m x, s a m = some x → t a m = some x) : CallOk P f s := by
  rcases h with ⟨h1, h2⟩ | h | h
  · exact .inl ⟨h1, fun a m r m' e => h2 a m r m' (hs _ _ _ e)⟩
  · exact .inr (.inl fun a m r m' e => h a m r m' (hs _ _ _ e))
  · exact .inr (.inr fun a m r m' e => h a m r m' (hs _ _ _ e))
theorem spOr_ok {P : Program} {f : FuncId} {s t : Spec} (h1 : CallOk P f t) (h2 : ∀ a m x, s a m = some x → t a m = some x) : CallOk P f (spOr s t) := by
  refine h1.sub fun a m x h => ?_
  unfold spOr at h
  split at h
  · rename_i y hy; cases h; exact h2 _ _ _ hy
  · exact h
def spOf (Γ : Env) (f : FuncId) : Spec := match Γ f with
  | some (_, sp) => sp
  | none => fun _ _ => none
/-- What is reckoned of one call. -/
def runOk (Γ : Env) (f : FuncId) (a0 : List AV) (m0 : List Blk) (x : Res × List Blk) : Bool := match spOf Γ f a0 m0 with
  | some y => eqRes y x
  | none => false
theorem runOk_some {Γ : Env} {f : FuncId} {a0 : List AV} {m0 : List Blk} {x : Res × List Blk} (h : runOk Γ f a0 m0 x = true) : spOf Γ f a0 m0 = some x := by
  unfold runOk at h
  split at h
  · rename_i y hy; rw [hy, eqRes_ok h]
  · cases h
theorem spFact_sub {Γ : Env} {f : FuncId} {a0 : List AV} {m0 : List Blk} {x : Res × List Blk} (h : runOk Γ f a0 m0 x = true) : ∀ a m y, spFact a0 m0 x a m = some y → spOf Γ f a m = some y := by
  intro a m y e
  unfold spFact at e
  split at e
  · rename_i hc
    cases e
    rw [eqAVs_ok hc.1, eqMem_ok hc.2]
    exact runOk_some h
  · cases e
theorem spOf_ok {P : Program} {Γ : Env} (h : EnvOk P Γ) {f : FuncId} (hf : (Γ f).isSome = true) : CallOk P f (spOf Γ f) := by
  unfold spOf
  cases hg : Γ f with
  | none => rw [hg] at hf; cases hf
  | some p => exact h f p.1 p.2 hg
/-- One more fact of a call, on top of what is known. -/
def putF (Γ0 Γ : Env) (f : FuncId) (ms : List Bool) (s : Spec) : Env := Γ0.put f ms (spOr s (spOf Γ f))
theorem putF_ok {P : Program} {Γ0 Γ : Env} (h0 : EnvOk P Γ0) (h : EnvOk P Γ) {f : FuncId} {ms : List Bool} {s : Spec} (hf : (Γ f).isSome = true) (hs : ∀ a m y, s a m = some y → spOf Γ f a m = some y) : EnvOk P (putF Γ0 Γ f ms s) :=
  Env.put_ok _ h0 (spOr_ok (spOf_ok h hf) hs)
theorem spOr_sub {s t u : Spec} (h1 : ∀ a m y, s a m = some y → u a m = some y) (h2 : ∀ a m y, t a m = some y → u a m = some y) : ∀ a m y, spOr s t a m = some y → u a m = some y := by
  intro a m y e
  unfold spOr at e
  split at e
  · rename_i z hz; cases e; exact h1 _ _ _ hz
  · exact h2 _ _ _ e

noncomputable def tbX : FuncId → Option (Nat × ACode × List ARes) := tabX Tryz.prog tabN
theorem tbX_good : ∀ f p, tbX f = some p → Good Tryz.prog f p.2.1 p.2.2 := tabX_good fun p hp => List.all_eq_true.1 tabN_fine p hp
noncomputable def envF (Γ0 : Env) : Env := envX tbX Γ0 1000 25
theorem envF_ok {Γ0 : Env} (h : EnvOk Tryz.prog Γ0) : EnvOk Tryz.prog (envF Γ0) := envX_ok mix_ok h tbX_good 25

noncomputable def ΓA : Env := (((Env.none.put 106 [true] spEsc).put 118 [] spBits).put 131 [] spFrom).put 168 [true] spDel
theorem ΓA_ok : EnvOk Tryz.prog ΓA := Env.put_ok _ (Env.put_ok _ (Env.put_ok _ (Env.put_ok _ (Env.none_ok _) esc_ok) bits_ok) frombits_ok) del_ok
noncomputable def ΓS : Env := ΓA.put 84 [true] (spS (envF ΓA) 1000)
theorem ΓS_ok : EnvOk Tryz.prog ΓS := Env.put_ok _ ΓA_ok (spS_ok (envF_ok ΓA_ok))
noncomputable def ΓD : Env := ΓS.put 127 [true] (spD (envF ΓS) 1000)
theorem ΓD_ok : EnvOk Tryz.prog ΓD := Env.put_ok _ ΓS_ok (spD_ok (envF_ok ΓS_ok))
end Go.Proofs.YtajpaagbfmjacaaGreatDoor.Am
