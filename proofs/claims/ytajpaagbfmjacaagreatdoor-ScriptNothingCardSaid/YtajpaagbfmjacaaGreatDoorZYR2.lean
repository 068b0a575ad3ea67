/-
  A vote, taken.
-/
import Derived.Test.YtajpaagbfmjacaaGreatDoorZYA
namespace Go.Proofs.YtajpaagbfmjacaaGreatDoor.Am
set_option linter.unusedSimpArgs false
set_option linter.unusedVariables false
open Go Go.Proofs
set_option maxRecDepth 1000000

def attake3 : List AV := [.agg [.v (.int .i64 0), .v (.int .u16 1), .v (.int .u16 0), .v (.int .u16 0), .v (.int .u16 0), .v (.int .u16 0), .v (.int .u16 0), .v (.int .u16 0), .v (.int .u16 0), .v (.int .u16 0), .v (.int .u16 0), .v (.int .u16 0), .v (.int .u16 0), .v (.int .u16 0), .v (.int .u16 0), .v (.int .u16 0), .v (.int .u16 0), .v (.int .u16 0), .osl 0], .agg [.v (.int .i64 0), .v (.int .u8 0), .v (.int .i64 0)], .v (.int .i64 3), .v (.int .u8 0), .v (.string ⟨#[18, 1, 1, 1, 1, 0, 1, 0, 1, 0, 1, 0, 1, 0, 1, 0, 1, 0, 1, 0, 1, 0, 1, 0, 1, 0, 1, 0, 1, 0, 1, 0, 1, 0, 1, 0, 2, 1, 1, 120]⟩)]
def ittake3 : List Blk := [.arr 250 7 [.agg [.v (.int .u8 0), .v (.int .i64 0), .v (.bool true), .v (.bool true), .v (.bool false), .fsl 2 [.agg [.v (.string ⟨#[18, 1, 1, 1, 1, 0, 1, 0, 1, 0, 1, 0, 1, 0, 1, 0, 1, 0, 1, 0, 1, 0, 1, 0, 1, 0, 1, 0, 1, 0, 1, 0, 1, 0, 1, 0, 2, 1, 1, 120]⟩), .v (.int .u16 1)]], .v (.slice none 0 0)]]]
def ottake3 : Res × List Blk := (.ret (.tup [.agg [.v (.int .i64 0), .v (.int .u16 1), .v (.int .u16 1), .v (.int .u16 0), .v (.int .u16 0), .v (.int .u16 0), .v (.int .u16 0), .v (.int .u16 0), .v (.int .u16 0), .v (.int .u16 0), .v (.int .u16 0), .v (.int .u16 0), .v (.int .u16 0), .v (.int .u16 0), .v (.int .u16 0), .v (.int .u16 0), .v (.int .u16 0), .v (.int .u16 0), .osl 1], .v (.slice none 0 0), .v (.string ⟨#[18, 1, 1, 1, 1, 0, 1, 0, 1, 0, 1, 0, 1, 0, 1, 0, 1, 0, 1, 0, 1, 0, 1, 0, 1, 0, 1, 0, 1, 0, 1, 0, 1, 0, 1, 0, 2, 1, 1, 120]⟩), .v (.bool true), .v (.int .i64 0)]), [.arr 250 7 [.agg [.v (.int .u8 0), .v (.int .i64 0), .v (.bool true), .v (.bool true), .v (.bool false), .fsl 2 [.agg [.v (.string ⟨#[18, 1, 1, 1, 1, 0, 1, 0, 1, 0, 1, 0, 1, 0, 1, 0, 1, 0, 1, 0, 1, 0, 1, 0, 1, 0, 1, 0, 1, 0, 1, 0, 1, 0, 1, 0, 2, 1, 1, 120]⟩), .v (.int .u16 1)]], .v (.slice none 0 0)]], .arr 250 7 []])
theorem fttake3 : runOk (envF ΓD) 124 attake3 ittake3 ottake3 = true := by kernel_rfl
end Go.Proofs.YtajpaagbfmjacaaGreatDoor.Am
