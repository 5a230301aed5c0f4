import Derived.Test.YtfmbifnbmlhhjaaA2
namespace Go.Proofs.Ytfmbifnbmlhhjaa
open Go Go.Vcg Go.IntWalk
set_option maxRecDepth 100000
set_option maxHeartbeats 20000000
set_option linter.unusedSimpArgs false
set_option linter.unusedVariables false

structure OpA where
  Kind : Int
  At : Int
  Data : List Int
  deriving DecidableEq, Inhabited
def oOp (a : OpA) : List SV := [.pl (.int .i64 a.Kind), .pl (.int .i64 a.At), .ow 1 (encI .u8 a.Data)]
def fOp (a : OpA) : List SV := [.pl (.int .i64 a.Kind), .pl (.int .i64 a.At), .pd (encI .u8 a.Data)]
def totOp (a : OpA) : Nat := a.Data.length
def lnOp (a : OpA) : Prop := a.Data.length < 2 ^ 50
def ctOp (a : OpA) : Nat := 1 + 1 + a.Data.length
def mkOp (b : Int) (a : OpA) : OpA := ⟨b, b + 1, markL .u8 (b + 1 + 1) a.Data.length⟩
theorem oOp_clo (xs : List OpA) : cloRows (encL oOp xs) = true := encL_clo _ (fun x => by simp [oOp, SV.clo, SV.clo0, encI_clo, encI_shut, encI_frz, shutL, SV.shut, frzL, SV.frz, cloRow, oB_clo, oB_shut, oB_frz]) xs
theorem oOp_shut (xs : List OpA) : shutRows (encL oOp xs) = true := encL_shut _ (fun x => by simp [oOp, SV.clo, SV.clo0, encI_clo, encI_shut, encI_frz, shutL, SV.shut, frzL, SV.frz, cloRow, oB_clo, oB_shut, oB_frz]) xs
theorem oOp_frz (xs : List OpA) : frzRows (encL oOp xs) = encL fOp xs := encL_frz _ (fun x => by simp [oOp, fOp, SV.clo, SV.clo0, encI_clo, encI_shut, encI_frz, shutL, SV.shut, frzL, SV.frz, cloRow, oB_clo, oB_shut, oB_frz]) xs
theorem oOp_len (xs : List OpA) : RowsLen (encL oOp xs) 3 = True := encL_rowsLen oOp (fun x => by rfl) xs
attribute [go_sem] oOp fOp oOp_clo oOp_shut oOp_frz oOp_len
def totOpS (xs : List OpA) : Nat := xs.length + sumN totOp xs
def lnOpS (xs : List OpA) : Prop := xs.length < 2 ^ 50 ∧ ∀ k, k < xs.length → lnOp (xs.getD k default)
end Go.Proofs.Ytfmbifnbmlhhjaa

