/-
  KEYS.
-/
import Derived.Test.YtajpaagbfmjacaaGreatDoorZYA
namespace Go.Proofs.YtajpaagbfmjacaaGreatDoor.Am
set_option linter.unusedSimpArgs false
set_option linter.unusedVariables false
open Go Go.Proofs
set_option maxRecDepth 1000000

def aKey1 : List AV := [.v (.string ⟨#[110, 0, 1]⟩), .v (.int .u8 0), .v (.int .u8 1)]
def iKey1 : List Blk := []
def oKey1 : Res × List Blk := (.ret (.tup [.v (.string ⟨#[100, 110, 0, 1, 99, 2, 0, 1]⟩), .v (.int .i64 0)]), [])
theorem fKey1 : runOk (envF ΓD) 29 aKey1 iKey1 oKey1 = true := by kernel_rfl
def aKey2 : List AV := [.v (.string ⟨#[110, 0, 1]⟩), .v (.int .u8 0), .v (.int .u8 2)]
def iKey2 : List Blk := []
def oKey2 : Res × List Blk := (.ret (.tup [.v (.string ⟨#[100, 110, 0, 1, 99, 2, 0, 2]⟩), .v (.int .i64 0)]), [])
theorem fKey2 : runOk (envF ΓD) 29 aKey2 iKey2 oKey2 = true := by kernel_rfl
def aKey3 : List AV := [.v (.string ⟨#[110, 0, 1]⟩), .v (.int .u8 0), .v (.int .u8 3)]
def iKey3 : List Blk := []
def oKey3 : Res × List Blk := (.ret (.tup [.v (.string ⟨#[100, 110, 0, 1, 99, 2, 0, 3]⟩), .v (.int .i64 0)]), [])
theorem fKey3 : runOk (envF ΓD) 29 aKey3 iKey3 oKey3 = true := by kernel_rfl
def aKey4 : List AV := [.v (.string ⟨#[110, 0, 1]⟩), .v (.int .u8 0), .v (.int .u8 4)]
def iKey4 : List Blk := []
def oKey4 : Res × List Blk := (.ret (.tup [.v (.string ⟨#[100, 110, 0, 1, 99, 2, 0, 4]⟩), .v (.int .i64 0)]), [])
theorem fKey4 : runOk (envF ΓD) 29 aKey4 iKey4 oKey4 = true := by kernel_rfl
def aKey5 : List AV := [.v (.string ⟨#[110, 0, 1]⟩), .v (.int .u8 0), .v (.int .u8 5)]
def iKey5 : List Blk := []
def oKey5 : Res × List Blk := (.ret (.tup [.v (.string ⟨#[100, 110, 0, 1, 99, 2, 0, 5]⟩), .v (.int .i64 0)]), [])
theorem fKey5 : runOk (envF ΓD) 29 aKey5 iKey5 oKey5 = true := by kernel_rfl
def aKey6 : List AV := [.v (.string ⟨#[110, 0, 1]⟩), .v (.int .u8 0), .v (.int .u8 6)]
def iKey6 : List Blk := []
def oKey6 : Res × List Blk := (.ret (.tup [.v (.string ⟨#[100, 110, 0, 1, 99, 2, 0, 6]⟩), .v (.int .i64 0)]), [])
theorem fKey6 : runOk (envF ΓD) 29 aKey6 iKey6 oKey6 = true := by kernel_rfl
def aKey7 : List AV := [.v (.string ⟨#[110, 0, 1]⟩), .v (.int .u8 0), .v (.int .u8 7)]
def iKey7 : List Blk := []
def oKey7 : Res × List Blk := (.ret (.tup [.v (.string ⟨#[100, 110, 0, 1, 99, 2, 0, 7]⟩), .v (.int .i64 0)]), [])
theorem fKey7 : runOk (envF ΓD) 29 aKey7 iKey7 oKey7 = true := by kernel_rfl
def aKey8 : List AV := [.v (.string ⟨#[110, 0, 1]⟩), .v (.int .u8 0), .v (.int .u8 8)]
def iKey8 : List Blk := []
def oKey8 : Res × List Blk := (.ret (.tup [.v (.string ⟨#[100, 110, 0, 1, 99, 2, 0, 8]⟩), .v (.int .i64 0)]), [])
theorem fKey8 : runOk (envF ΓD) 29 aKey8 iKey8 oKey8 = true := by kernel_rfl
def aKey9 : List AV := [.v (.string ⟨#[110, 0, 1]⟩), .v (.int .u8 0), .v (.int .u8 9)]
def iKey9 : List Blk := []
def oKey9 : Res × List Blk := (.ret (.tup [.v (.string ⟨#[100, 110, 0, 1, 99, 2, 0, 9]⟩), .v (.int .i64 0)]), [])
theorem fKey9 : runOk (envF ΓD) 29 aKey9 iKey9 oKey9 = true := by kernel_rfl
def aKey10 : List AV := [.v (.string ⟨#[110, 0, 1]⟩), .v (.int .u8 0), .v (.int .u8 10)]
def iKey10 : List Blk := []
def oKey10 : Res × List Blk := (.ret (.tup [.v (.string ⟨#[100, 110, 0, 1, 99, 2, 0, 10]⟩), .v (.int .i64 0)]), [])
theorem fKey10 : runOk (envF ΓD) 29 aKey10 iKey10 oKey10 = true := by kernel_rfl
def aKey11 : List AV := [.v (.string ⟨#[110, 0, 1]⟩), .v (.int .u8 0), .v (.int .u8 11)]
def iKey11 : List Blk := []
def oKey11 : Res × List Blk := (.ret (.tup [.v (.string ⟨#[100, 110, 0, 1, 99, 2, 0, 11]⟩), .v (.int .i64 0)]), [])
theorem fKey11 : runOk (envF ΓD) 29 aKey11 iKey11 oKey11 = true := by kernel_rfl
def aKey12 : List AV := [.v (.string ⟨#[110, 0, 1]⟩), .v (.int .u8 0), .v (.int .u8 12)]
def iKey12 : List Blk := []
def oKey12 : Res × List Blk := (.ret (.tup [.v (.string ⟨#[100, 110, 0, 1, 99, 2, 0, 12]⟩), .v (.int .i64 0)]), [])
theorem fKey12 : runOk (envF ΓD) 29 aKey12 iKey12 oKey12 = true := by kernel_rfl
def aKey13 : List AV := [.v (.string ⟨#[110, 0, 1]⟩), .v (.int .u8 0), .v (.int .u8 13)]
def iKey13 : List Blk := []
def oKey13 : Res × List Blk := (.ret (.tup [.v (.string ⟨#[100, 110, 0, 1, 99, 2, 0, 13]⟩), .v (.int .i64 0)]), [])
theorem fKey13 : runOk (envF ΓD) 29 aKey13 iKey13 oKey13 = true := by kernel_rfl
def aKey14 : List AV := [.v (.string ⟨#[110, 0, 1]⟩), .v (.int .u8 0), .v (.int .u8 14)]
def iKey14 : List Blk := []
def oKey14 : Res × List Blk := (.ret (.tup [.v (.string ⟨#[100, 110, 0, 1, 99, 2, 0, 14]⟩), .v (.int .i64 0)]), [])
theorem fKey14 : runOk (envF ΓD) 29 aKey14 iKey14 oKey14 = true := by kernel_rfl
def aKey15 : List AV := [.v (.string ⟨#[110, 0, 1]⟩), .v (.int .u8 0), .v (.int .u8 15)]
def iKey15 : List Blk := []
def oKey15 : Res × List Blk := (.ret (.tup [.v (.string ⟨#[100, 110, 0, 1, 99, 2, 0, 15]⟩), .v (.int .i64 0)]), [])
theorem fKey15 : runOk (envF ΓD) 29 aKey15 iKey15 oKey15 = true := by kernel_rfl
end Go.Proofs.YtajpaagbfmjacaaGreatDoor.Am
