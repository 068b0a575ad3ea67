/-
  What is known of calls, so far.
-/
import Derived.Test.YtajpaagbfmjacaaGreatDoorZYR
import Derived.Test.YtajpaagbfmjacaaGreatDoorZYR2
import Derived.Test.YtajpaagbfmjacaaGreatDoorZYK
namespace Go.Proofs.YtajpaagbfmjacaaGreatDoor.Am
set_option linter.unusedSimpArgs false
set_option linter.unusedVariables false
open Go Go.Proofs
set_option maxRecDepth 1000000

noncomputable def Γr : Env := putF ΓD (envF ΓD) 143 [true, true, true, true, true] ((spFact aread iread oread))
theorem Γr_ok : EnvOk Tryz.prog Γr := putF_ok ΓD_ok (envF_ok ΓD_ok) (by kernel_rfl) ((spFact_sub fread))
noncomputable def Γh : Env := putF Γr (envF ΓD) 142 [true, true, true, true, true] ((spFact ahput ihput ohput))
theorem Γh_ok : EnvOk Tryz.prog Γh := putF_ok Γr_ok (envF_ok ΓD_ok) (by kernel_rfl) ((spFact_sub fhput))
noncomputable def Γt : Env := putF Γh (envF ΓD) 124 [true, true, true, true, true] ((spFact attake3 ittake3 ottake3))
theorem Γt_ok : EnvOk Tryz.prog Γt := putF_ok Γh_ok (envF_ok ΓD_ok) (by kernel_rfl) ((spFact_sub fttake3))
noncomputable def Γa : Env := putF Γt (envF ΓD) 29 [true, true, true, true, true] (spOr (spFact aKey1 iKey1 oKey1) (spOr (spFact aKey2 iKey2 oKey2) (spOr (spFact aKey3 iKey3 oKey3) (spOr (spFact aKey4 iKey4 oKey4) (spOr (spFact aKey5 iKey5 oKey5) (spOr (spFact aKey6 iKey6 oKey6) (spOr (spFact aKey7 iKey7 oKey7) (spOr (spFact aKey8 iKey8 oKey8) (spOr (spFact aKey9 iKey9 oKey9) (spOr (spFact aKey10 iKey10 oKey10) (spOr (spFact aKey11 iKey11 oKey11) (spOr (spFact aKey12 iKey12 oKey12) (spOr (spFact aKey13 iKey13 oKey13) (spOr (spFact aKey14 iKey14 oKey14) ((spFact aKey15 iKey15 oKey15))))))))))))))))
theorem Γa_ok : EnvOk Tryz.prog Γa := putF_ok Γt_ok (envF_ok ΓD_ok) (by kernel_rfl) (spOr_sub (spFact_sub fKey1) (spOr_sub (spFact_sub fKey2) (spOr_sub (spFact_sub fKey3) (spOr_sub (spFact_sub fKey4) (spOr_sub (spFact_sub fKey5) (spOr_sub (spFact_sub fKey6) (spOr_sub (spFact_sub fKey7) (spOr_sub (spFact_sub fKey8) (spOr_sub (spFact_sub fKey9) (spOr_sub (spFact_sub fKey10) (spOr_sub (spFact_sub fKey11) (spOr_sub (spFact_sub fKey12) (spOr_sub (spFact_sub fKey13) (spOr_sub (spFact_sub fKey14) ((spFact_sub fKey15))))))))))))))))
end Go.Proofs.YtajpaagbfmjacaaGreatDoor.Am
