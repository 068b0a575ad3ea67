/-
  THE ABSTRACT MACHINE: more rules of evaluation.
-/
import Derived.Test.YtbponegjfccgfaaAmH
namespace Go.Proofs.Ytbponegjfccgfaa.Am
set_option linter.unusedSimpArgs false
set_option linter.unusedVariables false
open Go Go.Proofs

end Go.Proofs.Ytbponegjfccgfaa.Am
