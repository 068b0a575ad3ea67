/-
  CHANGES AS ELEMENTS.
-/
import Derived.Test.YtjmgnodeohmboaaDoorAmJ
namespace Go.Proofs.YtjmgnodeohmboaaDoor.Am
set_option linter.unusedSimpArgs false
set_option linter.unusedVariables false
open Go Go.Proofs

/-- A change, and a list of changes. -/
def avCh (c : Bool × Int) : AV := .agg [.v (.bool c.1), .v (.int .u8 c.2)]
def okCh (c : Bool × Int) : Prop := 0 ≤ c.2 ∧ c.2 < 256
end Go.Proofs.YtjmgnodeohmboaaDoor.Am
