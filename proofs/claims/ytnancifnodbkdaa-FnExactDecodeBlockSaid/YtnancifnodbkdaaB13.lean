import Derived.Test.YtnancifnodbkdaaB12
namespace Go.Proofs.Ytnancifnodbkdaa
open Go Go.Vcg Go.IntWalk
set_option maxRecDepth 100000
set_option maxHeartbeats 20000000
set_option linter.unusedSimpArgs false
set_option linter.unusedVariables false

theorem c156 : CallOk Try.prog 156 := ⟨_, Try.func156, rfl, by kernel_rfl⟩
structure TxA where
  Ins : List PointA
  Outs : List Int
  Height : Int
  deriving DecidableEq, Inhabited
def oTx (a : TxA) : List SV := [.ow 33 (encL fPoint a.Ins), .ow 1 (encI .i64 a.Outs), .pl (.int .i64 a.Height)]
def fTx (a : TxA) : List SV := [.pd (encL fPoint a.Ins), .pd (encI .i64 a.Outs), .pl (.int .i64 a.Height)]
def totTx (a : TxA) : Nat := a.Ins.length + a.Outs.length
def lnTx (a : TxA) : Prop := a.Ins.length < 2 ^ 50 ∧ a.Outs.length < 2 ^ 50
def ctTx (a : TxA) : Nat := sumN ctPoint a.Ins + a.Outs.length + 1
def mkTx (b : Int) (a : TxA) : TxA := ⟨mkS mkPoint ctPoint (b) a.Ins, markL .i64 (b + sumN ctPoint a.Ins) a.Outs.length, b + sumN ctPoint a.Ins + a.Outs.length⟩
theorem oTx_clo (xs : List TxA) : cloRows (encL oTx xs) = true := encL_clo _ (fun x => by simp [oTx, fPoint_clo, fPoint_shut, fPoint_frz, SV.clo, SV.clo0, encI_clo, encI_shut, encI_frz, shutL, SV.shut, frzL, SV.frz, cloRow, oB_clo, oB_shut, oB_frz]) xs
theorem oTx_shut (xs : List TxA) : shutRows (encL oTx xs) = true := encL_shut _ (fun x => by simp [oTx, fPoint_clo, fPoint_shut, fPoint_frz, SV.clo, SV.clo0, encI_clo, encI_shut, encI_frz, shutL, SV.shut, frzL, SV.frz, cloRow, oB_clo, oB_shut, oB_frz]) xs
theorem oTx_frz (xs : List TxA) : frzRows (encL oTx xs) = encL fTx xs := encL_frz _ (fun x => by simp [oTx, fTx, fPoint_clo, fPoint_shut, fPoint_frz, SV.clo, SV.clo0, encI_clo, encI_shut, encI_frz, shutL, SV.shut, frzL, SV.frz, cloRow, oB_clo, oB_shut, oB_frz]) xs
theorem oTx_len (xs : List TxA) : RowsLen (encL oTx xs) 3 = True := encL_rowsLen oTx (fun x => by rfl) xs
attribute [go_sem] oTx fTx oTx_clo oTx_shut oTx_frz oTx_len
theorem eqTx_ok {a b : TxA} (h : totTx a < 2 ^ 40 := by exact pm) : TSpec Try.prog 156 [] [.ag (fTx a), .ag (fTx b)] false [] (.pl (.bool (decide (a = b)))) := by
  unfold totTx at h
  simp only [fTx]
  have hD := And.intro @mkPoint.eq_1 (@mkTx.eq_1)
  refine sT 22 [.tmp 4] Try.func156 fun w0 S0 ρ0 φ0 => ?_
  repeat' (first | apply W.seq | apply W.skip | apply W.region | apply W.block | apply N.code | apply N.blk | apply Sl.nil | apply W.exit | apply W.ret | apply E.hit | apply E.code | apply E.fin | refine zM ?_ | apply O.i | refine sP ?_ | refine sQ fun _ => ?_ | refine sX fun _ => ?_ | (refine k1 false [] c179 ?_; refine k2 eqPointS_ok ?_) | (refine k1 false [] c180 ?_; refine k2 eqIntS_ok ?_) | refine zI ?_ ?_ | (intro hb; (try simp [-List.getD_eq_getElem?_getD] at hb); (try (exfalso; omega))))
  all_goals (first | rw [show decide (a = b) = false from decide_eq_false fun e => hb (by rw [e])] | rw [show decide (a = b) = true from decide_eq_true (by cases a; cases b; simp_all)])
  all_goals exact rT

end Go.Proofs.Ytnancifnodbkdaa

