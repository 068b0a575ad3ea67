/-
  THE ABSTRACT MACHINE: more rules of evaluation.
-/
import Derived.Test.YtjmgnodeohmboaaDoorAmH
namespace Go.Proofs.YtjmgnodeohmboaaDoor.Am
set_option linter.unusedSimpArgs false
set_option linter.unusedVariables false
open Go Go.Proofs

end Go.Proofs.YtjmgnodeohmboaaDoor.Am
