/-
  FUNCTIONS WITHOUT A GO BODY: floats and their bits; a pointer as it is.
-/
import Derived.Test.YtajpaagbfmjacaaGreatDoorZAmX
import Derived.Test.YtajpaagbfmjacaaGreatDoorProg
namespace Go.Proofs.YtajpaagbfmjacaaGreatDoor.Am
set_option linter.unusedSimpArgs false
set_option linter.unusedVariables false
open Go Go.Proofs

theorem mix_ok : Tryz.prog.follows .mixedOrders = true := by kernel_rfl

def spBits : Spec
  | [.v (.float .f64 n)], [] => some (.ret (.v (.int .u64 n)), [])
  | _, _ => none
def spFrom : Spec
  | [.v (.int .u64 n)], [] => some (.ret (.v (.float .f64 n.toNat)), [])
  | _, _ => none
theorem one_of {F : Nat → Prop} {w : World} {y : Value} {vs : List Value} (h : CR F w [] [.v y] vs) : vs = [y] := by
  obtain ⟨x, rfl, hx⟩ := h.of_one
  rw [hx.of_v]
theorem ext_run {P : Program} {w : World} {f : FuncId} {fn : Func} {e : Array Value → Sem Value} {args : Array Value} {x : Value} (hf : P.funcs[f]? = some fn) (hname : (fn.name == "runtime.NumGoroutine") = false) (hb : fn.body.isNone = true)
    (hn : Extern.findNext fn = none) (he : Extern.find fn = some e) (hx : (e args).run P w = .ok x w) : (callFunc f args).run P w = .ok (.value x) w := by
  have hne : fn.name ≠ "runtime.NumGoroutine" := by simpa using hname
  have hbn : fn.body = none := by simpa using hb
  simp [callFunc, hf, hne, hbn, hn, he, hx, go_sem]
theorem bits_ok : CallOk Tryz.prog 118 spBits := by
  refine .inr (.inl fun args mem r mem' h => ?_)
  unfold spBits at h
  split at h
  case h_2 => cases h
  cases h
  refine ⟨rfl, rfl, _, rfl, fun F w vs hc => ⟨_, ?_, .v _⟩⟩
  rw [one_of hc]
  exact ext_run (fn := Tryz.f118) (by kernel_rfl) (by kernel_rfl) (by kernel_rfl) (by kernel_rfl) (by kernel_rfl : _ = some Extern.MathFloatBits.float64bits) rfl
theorem frombits_ok : CallOk Tryz.prog 131 spFrom := by
  refine .inr (.inl fun args mem r mem' h => ?_)
  unfold spFrom at h
  split at h
  case h_2 => cases h
  cases h
  refine ⟨rfl, rfl, _, rfl, fun F w vs hc => ⟨_, ?_, .v _⟩⟩
  rw [one_of hc]
  exact ext_run (fn := Tryz.f131) (by kernel_rfl) (by kernel_rfl) (by kernel_rfl) (by kernel_rfl) (by kernel_rfl : _ = some Extern.MathFloatBits.float64frombits) rfl
def spEsc : Spec
  | [.ptr i j o], mem => some (.ret (.ptr i j o), mem)
  | _, _ => none
theorem esc_ok : CallOk Tryz.prog 106 spEsc := by
  refine .inr (.inr fun args mem r mem' h => ?_)
  unfold spEsc at h
  split at h
  case h_2 => cases h
  cases h
  refine ⟨rfl, _, rfl, fun O F B w vs hm hc => ?_⟩
  obtain ⟨x, rfl, hx⟩ := hc.of_one
  exact ⟨x, ext_run (fn := Tryz.f106) (by kernel_rfl) (by kernel_rfl) (by kernel_rfl) (by kernel_rfl) (by kernel_rfl : _ = some Extern.AbiNoEscape.same) rfl, hx⟩
end Go.Proofs.YtajpaagbfmjacaaGreatDoor.Am
