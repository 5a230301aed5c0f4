import Derived.Test.YtcmnbefdbckhcaaA1
namespace Go.Proofs.Ytcmnbefdbckhcaa
open Go Go.Vcg Go.IntWalk
set_option maxRecDepth 100000
set_option maxHeartbeats 4000000
set_option linter.unusedSimpArgs false
set_option linter.unusedVariables false

def oB (x : List Int) : List SV := [.ow 1 (encI .u8 x)]
def fB (x : List Int) : List SV := [.pd (encI .u8 x)]
theorem oB_clo (xs : List (List Int)) : cloRows (encL oB xs) = true := encL_clo _ (fun x => by simp [oB, cloRow, SV.clo, SV.clo0, encI_clo]) xs
theorem oB_shut (xs : List (List Int)) : shutRows (encL oB xs) = true := encL_shut _ (fun x => by simp [oB, shutL, SV.shut, encI_shut]) xs
theorem oB_frz (xs : List (List Int)) : frzRows (encL oB xs) = encL fB xs := encL_frz _ (fun x => by simp [oB, fB, frzL, SV.frz, encI_frz]) xs
theorem oB_len (xs : List (List Int)) : RowsLen (encL oB xs) 1 = True := encL_rowsLen oB (fun _ => rfl) xs
def totByteSS (xs : List (List Int)) : Nat := xs.length + sumN List.length xs
attribute [go_sem] oB fB oB_clo oB_shut oB_frz oB_len

def mkB (b : Int) (x : List Int) : List Int := markL .u8 b x.length
def lnByteSS (xs : List (List Int)) : Prop := xs.length < 2 ^ 50 ∧ ∀ k, k < xs.length → lnB (xs.getD k default)
end Go.Proofs.Ytcmnbefdbckhcaa

