import Derived.Test.YtfmbifnbmlhhjaaA3
namespace Go.Proofs.Ytfmbifnbmlhhjaa
open Go Go.Vcg Go.IntWalk
set_option maxRecDepth 100000
set_option maxHeartbeats 20000000
set_option linter.unusedSimpArgs false
set_option linter.unusedVariables false

theorem c26 : CallOk Try.prog 26 := ⟨_, Try.func26, rfl, by kernel_rfl⟩
theorem c21 : CallOk Try.prog 21 := ⟨_, Try.func21, rfl, by kernel_rfl⟩
theorem c22 : CallOk Try.prog 22 := ⟨_, Try.func22, rfl, by kernel_rfl⟩
theorem c23 : CallOk Try.prog 23 := ⟨_, Try.func23, rfl, by kernel_rfl⟩
theorem c24 : CallOk Try.prog 24 := ⟨_, Try.func24, rfl, by kernel_rfl⟩
structure DiskA where
  Safe : List (List Int)
  Pending : List PendA
  deriving DecidableEq, Inhabited
def oDisk (a : DiskA) : List SV := [.ow 1 (encL oB a.Safe), .ow 2 (encL oPend a.Pending)]
def fDisk (a : DiskA) : List SV := [.pd (encL fB a.Safe), .pd (encL fPend a.Pending)]
def totDisk (a : DiskA) : Nat := (a.Safe.length + sumN List.length a.Safe) + (a.Pending.length + sumN totPend a.Pending)
def lnDisk (a : DiskA) : Prop := lnByteSS a.Safe ∧ lnPendS a.Pending
def ctDisk (a : DiskA) : Nat := sumN List.length a.Safe + sumN ctPend a.Pending
def mkDisk (b : Int) (a : DiskA) : DiskA := ⟨mkS mkB List.length (b) a.Safe, mkS mkPend ctPend (b + sumN List.length a.Safe) a.Pending⟩
theorem oDisk_clo (xs : List DiskA) : cloRows (encL oDisk xs) = true := encL_clo _ (fun x => by simp [oDisk, SV.clo, SV.clo0, encI_clo, encI_shut, encI_frz, shutL, SV.shut, frzL, SV.frz, cloRow, oB_clo, oB_shut, oB_frz, oPend_clo, oPend_shut, oPend_frz]) xs
theorem oDisk_shut (xs : List DiskA) : shutRows (encL oDisk xs) = true := encL_shut _ (fun x => by simp [oDisk, SV.clo, SV.clo0, encI_clo, encI_shut, encI_frz, shutL, SV.shut, frzL, SV.frz, cloRow, oB_clo, oB_shut, oB_frz, oPend_clo, oPend_shut, oPend_frz]) xs
theorem oDisk_frz (xs : List DiskA) : frzRows (encL oDisk xs) = encL fDisk xs := encL_frz _ (fun x => by simp [oDisk, fDisk, SV.clo, SV.clo0, encI_clo, encI_shut, encI_frz, shutL, SV.shut, frzL, SV.frz, cloRow, oB_clo, oB_shut, oB_frz, oPend_clo, oPend_shut, oPend_frz]) xs
theorem oDisk_len (xs : List DiskA) : RowsLen (encL oDisk xs) 2 = True := encL_rowsLen oDisk (fun _ => rfl) xs
attribute [go_sem] oDisk fDisk oDisk_clo oDisk_shut oDisk_frz oDisk_len
theorem toDisk_ok {a : DiskA} (h : totDisk a < 2 ^ 40 := by exact pm) : TSpec Try.prog 26 [] [.ag (fDisk a)] false [] (.ag (oDisk a)) := by
  unfold totDisk at h
  have hu0 : totByteSS a.Safe = (a.Safe.length + sumN List.length a.Safe) := rfl
  have hu1 : totPendS a.Pending = (a.Pending.length + sumN totPend a.Pending) := rfl
  simp only [oDisk, fDisk]
  have hD := And.intro @mkB.eq_1 (And.intro @mkPend.eq_1 (@mkDisk.eq_1))
  refine sT 13 [.cell 2 35] Try.func26 fun w0 S0 ρ0 φ0 => ?_
  repeat' (first | apply W.seq | apply W.skip | apply W.region | apply W.block | apply N.code | apply N.blk | apply Sl.nil | apply W.exit | apply W.ret | apply E.hit | apply E.code | apply E.fin | refine zM ?_ | apply O.i | refine sP ?_ | refine sQ fun _ => ?_ | refine sX fun _ => ?_ | (refine k1 false [] c99 ?_; refine k2 toByteSS_ok ?_) | (refine k1 false [] c100 ?_; refine k2 toPendS_ok ?_) | refine zI ?_ ?_ | (intro hb; (try simp [-List.getD_eq_getElem?_getD] at hb); (try (exfalso; omega))))
  exact rT

theorem eqDisk_ok {a b : DiskA} (h : totDisk a < 2 ^ 40 := by exact pm) : TSpec Try.prog 21 [] [.ag (fDisk a), .ag (fDisk b)] false [] (.pl (.bool (decide (a = b)))) := by
  unfold totDisk at h
  have hu0 : totByteSS a.Safe = (a.Safe.length + sumN List.length a.Safe) := rfl
  have hu1 : totPendS a.Pending = (a.Pending.length + sumN totPend a.Pending) := rfl
  simp only [fDisk]
  have hD := And.intro @mkB.eq_1 (And.intro @mkPend.eq_1 (@mkDisk.eq_1))
  refine sT 17 [.tmp 4] Try.func21 fun w0 S0 ρ0 φ0 => ?_
  repeat' (first | apply W.seq | apply W.skip | apply W.region | apply W.block | apply N.code | apply N.blk | apply Sl.nil | apply W.exit | apply W.ret | apply E.hit | apply E.code | apply E.fin | refine zM ?_ | apply O.i | refine sP ?_ | refine sQ fun _ => ?_ | refine sX fun _ => ?_ | (refine k1 false [] c89 ?_; refine k2 eqByteSS_ok ?_) | (refine k1 false [] c90 ?_; refine k2 eqPendS_ok ?_) | refine zI ?_ ?_ | (intro hb; (try simp [-List.getD_eq_getElem?_getD] at hb); (try (exfalso; omega))))
  all_goals (first | rw [show decide (a = b) = false from decide_eq_false fun e => hb (by rw [e])] | rw [show decide (a = b) = true from decide_eq_true (by cases a; cases b; simp_all)])
  all_goals exact rT

theorem szDisk_ok {a : DiskA} {left : Int} (h : lnDisk a := by exact pm) (hp : 0 ≤ left ∧ left < 2 ^ 62 := by exact pm) : TSpec Try.prog 24 [] [.ag (fDisk a), .pl (.int .i64 left)] false [] (.pl (.int .i64 (if left < totDisk a then -1 else left - totDisk a))) := by
  have htot : totDisk a = (a.Safe.length + sumN List.length a.Safe) + (a.Pending.length + sumN totPend a.Pending) := rfl
  rw [htot]
  unfold lnDisk at h
  obtain ⟨h0, h1⟩ := h
  have hu0 : totByteSS a.Safe = (a.Safe.length + sumN List.length a.Safe) := rfl
  have hu1 : totPendS a.Pending = (a.Pending.length + sumN totPend a.Pending) := rfl
  simp only [fDisk]
  have hD := And.intro @mkB.eq_1 (And.intro @mkPend.eq_1 (@mkDisk.eq_1))
  refine sT 18 [.tmp 4] Try.func24 fun w0 S0 ρ0 φ0 => ?_
  repeat' (first | apply W.seq | apply W.skip | apply W.region | apply W.block | apply N.code | apply N.blk | apply Sl.nil | apply W.exit | apply W.ret | apply E.hit | apply E.code | apply E.fin | refine zM ?_ | apply O.i | refine sP ?_ | refine sQ fun _ => ?_ | refine sX fun _ => ?_ | (refine k1 false [] c95 ?_; refine k2 szByteSS_ok ?_) | (refine k1 false [] c96 ?_; refine k2 szPendS_ok ?_) | refine zI ?_ ?_ | (intro hb; (try simp [-List.getD_eq_getElem?_getD] at hb); (try (exfalso; omega))))
  all_goals first | (rw [if_pos (by omega)]; exact rT) | (rw [if_neg (by omega)]; exact rT)

theorem markDisk_ok {a : DiskA} {b : Int} (h : totDisk a < 2 ^ 40 := by exact pm) (hp : 0 ≤ b ∧ b + ctDisk a < 2 ^ 62 := by exact pm) : TSpec Try.prog 22 [(1000000, .c 1 (encL oB a.Safe)), (1000001, .c 2 (encL oPend a.Pending))] [.ag [.sl 1000000 0 a.Safe.length, .sl 1000001 0 a.Pending.length], .pl (.int .i64 b)] false [(1000000, .c 1 (encL oB (mkS mkB List.length (b) a.Safe))), (1000001, .c 2 (encL oPend (mkS mkPend ctPend (b + sumN List.length a.Safe) a.Pending)))] (.pl (.int .i64 (b + ctDisk a))) := by
  have hct : ctDisk a = sumN List.length a.Safe + sumN ctPend a.Pending := rfl
  have htot : totDisk a = (a.Safe.length + sumN List.length a.Safe) + (a.Pending.length + sumN totPend a.Pending) := rfl
  rw [show b + (ctDisk a : Int) = b + sumN List.length a.Safe + sumN ctPend a.Pending by omega]
  have hu0 : totByteSS a.Safe = (a.Safe.length + sumN List.length a.Safe) := rfl
  have hu1 : totPendS a.Pending = (a.Pending.length + sumN totPend a.Pending) := rfl
  have hD := And.intro @mkB.eq_1 (And.intro @mkPend.eq_1 (@mkDisk.eq_1))
  refine sT 14 [.tmp 4] Try.func22 fun w0 S0 ρ0 φ0 => ?_
  repeat' (first | apply W.seq | apply W.skip | apply W.region | apply W.block | apply N.code | apply N.blk | apply Sl.nil | apply W.exit | apply W.ret | apply E.hit | apply E.code | apply E.fin | refine zM ?_ | apply O.i | refine sP ?_ | refine sQ fun _ => ?_ | refine sX fun _ => ?_ | (refine k1 false [(1000000, 0, none)] c91 ?_; refine k2 markByteSS_ok ?_) | (refine k1 false [(1000000, 0, none)] c92 ?_; refine k2 markPendS_ok ?_) | refine zI ?_ ?_ | (intro hb; (try simp [-List.getD_eq_getElem?_getD] at hb); (try (exfalso; omega))))
  exact rT

theorem heldDisk_ok {a : DiskA} {b : Int} (h : totDisk a < 2 ^ 40 := by exact pm) (hp : 0 ≤ b ∧ b + ctDisk a < 2 ^ 62 := by exact pm) : TSpec Try.prog 23 [] [.ag (fDisk (mkDisk b a)), .pl (.int .i64 b)] false [] (.pl (.int .i64 (b + ctDisk a))) := by
  have hct : ctDisk a = sumN List.length a.Safe + sumN ctPend a.Pending := rfl
  have htot : totDisk a = (a.Safe.length + sumN List.length a.Safe) + (a.Pending.length + sumN totPend a.Pending) := rfl
  rw [show b + (ctDisk a : Int) = b + sumN List.length a.Safe + sumN ctPend a.Pending by omega]
  simp only [fDisk, mkDisk]
  have hu0 : totByteSS a.Safe = (a.Safe.length + sumN List.length a.Safe) := rfl
  have hu1 : totPendS a.Pending = (a.Pending.length + sumN totPend a.Pending) := rfl
  have hD := And.intro @mkB.eq_1 (And.intro @mkPend.eq_1 (@mkDisk.eq_1))
  refine sT 18 [.tmp 4] Try.func23 fun w0 S0 ρ0 φ0 => ?_
  repeat' (first | apply W.seq | apply W.skip | apply W.region | apply W.block | apply N.code | apply N.blk | apply Sl.nil | apply W.exit | apply W.ret | apply E.hit | apply E.code | apply E.fin | refine zM ?_ | apply O.i | refine sP ?_ | refine sQ fun _ => ?_ | refine sX fun _ => ?_ | (refine k1 false [] c93 ?_; refine k2 heldByteSS_ok ?_) | (refine k1 false [] c94 ?_; refine k2 heldPendS_ok ?_) | refine zI ?_ ?_ | (intro hb; (try simp [-List.getD_eq_getElem?_getD] at hb); (try (exfalso; omega))))
  exact rT

end Go.Proofs.Ytfmbifnbmlhhjaa

