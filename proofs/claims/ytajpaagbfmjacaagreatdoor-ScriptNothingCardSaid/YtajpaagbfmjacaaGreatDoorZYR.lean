/-
  A body, read; a body, held.
-/
import Derived.Test.YtajpaagbfmjacaaGreatDoorZYA
namespace Go.Proofs.YtajpaagbfmjacaaGreatDoor.Am
set_option linter.unusedSimpArgs false
set_option linter.unusedVariables false
open Go Go.Proofs
set_option maxRecDepth 1000000

def aread : List AV := [.agg [.v (.int .i64 0), .v (.int .u8 0), .v (.int .i64 0)], .v (.string ⟨#[18, 1, 1, 1, 1, 0, 1, 0, 1, 0, 1, 0, 1, 0, 1, 0, 1, 0, 1, 0, 1, 0, 1, 0, 1, 0, 1, 0, 1, 0, 1, 0, 1, 0, 1, 0, 2, 1, 1, 120]⟩)]
def iread : List Blk := []
def oread : Res × List Blk := (.ret (.agg [.v (.int .i64 1), .v (.int .u16 0), .v (.int .u16 0), .v (.int .u16 0), .v (.int .u16 0), .v (.int .u16 0), .v (.int .u16 0), .v (.int .u16 0), .v (.int .u16 0), .v (.int .u16 0), .v (.int .u16 0), .v (.int .u16 0), .v (.int .u16 0), .v (.int .u16 0), .v (.int .u16 0), .v (.int .u16 0), .v (.int .u16 0), .v (.string ⟨#[120]⟩)]), [])
theorem fread : runOk (envF ΓD) 143 aread iread oread = true := by kernel_rfl
def ahput : List AV := [.agg [.v (.int .u16 0), .v (.int .u16 0), .v (.int .u16 0), .v (.int .u16 0), .v (.int .u16 0), .v (.int .u16 0), .v (.int .u16 0), .v (.int .u16 0), .v (.int .u16 0), .v (.int .u16 0), .v (.int .u16 0), .v (.int .u16 0), .v (.int .u16 0), .v (.int .u16 0), .v (.int .u16 0), .v (.int .u16 0), .v (.slice none 0 0)], .agg [.v (.int .u8 0), .v (.int .i64 0), .v (.int .i64 1), .v (.int .u16 0), .v (.int .u16 0), .v (.int .u16 0), .v (.int .u16 0), .v (.int .u16 0), .v (.int .u16 0), .v (.int .u16 0), .v (.int .u16 0), .v (.int .u16 0), .v (.int .u16 0), .v (.int .u16 0), .v (.int .u16 0), .v (.int .u16 0), .v (.int .u16 0), .v (.int .u16 0), .v (.int .u16 0), .v (.string ⟨#[120]⟩)]]
def ihput : List Blk := []
def ohput : Res × List Blk := (.ret (.tup [.agg [.v (.int .u16 1), .v (.int .u16 0), .v (.int .u16 0), .v (.int .u16 0), .v (.int .u16 0), .v (.int .u16 0), .v (.int .u16 0), .v (.int .u16 0), .v (.int .u16 0), .v (.int .u16 0), .v (.int .u16 0), .v (.int .u16 0), .v (.int .u16 0), .v (.int .u16 0), .v (.int .u16 0), .v (.int .u16 0), .v (.slice none 0 0)], .osl 0, .v (.int .i64 0)]), [.arr 262 20 [.agg [.v (.int .u8 0), .v (.int .i64 0), .v (.int .i64 1), .v (.int .u16 0), .v (.int .u16 0), .v (.int .u16 0), .v (.int .u16 0), .v (.int .u16 0), .v (.int .u16 0), .v (.int .u16 0), .v (.int .u16 0), .v (.int .u16 0), .v (.int .u16 0), .v (.int .u16 0), .v (.int .u16 0), .v (.int .u16 0), .v (.int .u16 0), .v (.int .u16 0), .v (.int .u16 0), .v (.string ⟨#[120]⟩)]]])
theorem fhput : runOk (envF ΓD) 142 ahput ihput ohput = true := by kernel_rfl
end Go.Proofs.YtajpaagbfmjacaaGreatDoor.Am
