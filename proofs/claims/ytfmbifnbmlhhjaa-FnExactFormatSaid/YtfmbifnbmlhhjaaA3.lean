import Derived.Test.YtfmbifnbmlhhjaaA2
namespace Go.Proofs.Ytfmbifnbmlhhjaa
open Go Go.Vcg Go.IntWalk
set_option maxRecDepth 100000
set_option maxHeartbeats 20000000
set_option linter.unusedSimpArgs false
set_option linter.unusedVariables false

theorem c155 : CallOk Try.prog 155 := ⟨_, Try.func155, rfl, by kernel_rfl⟩
theorem c100 : CallOk Try.prog 100 := ⟨_, Try.func100, rfl, by kernel_rfl⟩
theorem c152 : CallOk Try.prog 152 := ⟨_, Try.func152, rfl, by kernel_rfl⟩
theorem c90 : CallOk Try.prog 90 := ⟨_, Try.func90, rfl, by kernel_rfl⟩
theorem c92 : CallOk Try.prog 92 := ⟨_, Try.func92, rfl, by kernel_rfl⟩
theorem c94 : CallOk Try.prog 94 := ⟨_, Try.func94, rfl, by kernel_rfl⟩
theorem c154 : CallOk Try.prog 154 := ⟨_, Try.func154, rfl, by kernel_rfl⟩
theorem c96 : CallOk Try.prog 96 := ⟨_, Try.func96, rfl, by kernel_rfl⟩
structure PendA where
  At : Int
  Data : List Int
  deriving DecidableEq, Inhabited
def oPend (a : PendA) : List SV := [.pl (.int .i64 a.At), .ow 1 (encI .u8 a.Data)]
def fPend (a : PendA) : List SV := [.pl (.int .i64 a.At), .pd (encI .u8 a.Data)]
def totPend (a : PendA) : Nat := a.Data.length
def lnPend (a : PendA) : Prop := a.Data.length < 2 ^ 50
def ctPend (a : PendA) : Nat := 1 + a.Data.length
def mkPend (b : Int) (a : PendA) : PendA := ⟨b, markL .u8 (b + 1) a.Data.length⟩
theorem oPend_clo (xs : List PendA) : cloRows (encL oPend xs) = true := encL_clo _ (fun x => by simp [oPend, SV.clo, SV.clo0, encI_clo, encI_shut, encI_frz, shutL, SV.shut, frzL, SV.frz, cloRow, oB_clo, oB_shut, oB_frz]) xs
theorem oPend_shut (xs : List PendA) : shutRows (encL oPend xs) = true := encL_shut _ (fun x => by simp [oPend, SV.clo, SV.clo0, encI_clo, encI_shut, encI_frz, shutL, SV.shut, frzL, SV.frz, cloRow, oB_clo, oB_shut, oB_frz]) xs
theorem oPend_frz (xs : List PendA) : frzRows (encL oPend xs) = encL fPend xs := encL_frz _ (fun x => by simp [oPend, fPend, SV.clo, SV.clo0, encI_clo, encI_shut, encI_frz, shutL, SV.shut, frzL, SV.frz, cloRow, oB_clo, oB_shut, oB_frz]) xs
theorem oPend_len (xs : List PendA) : RowsLen (encL oPend xs) 2 = True := encL_rowsLen oPend (fun _ => rfl) xs
attribute [go_sem] oPend fPend oPend_clo oPend_shut oPend_frz oPend_len
def totPendS (xs : List PendA) : Nat := xs.length + sumN totPend xs
def lnPendS (xs : List PendA) : Prop := xs.length < 2 ^ 50 ∧ ∀ k, k < xs.length → lnPend (xs.getD k default)
theorem toPend_ok {a : PendA} (h : totPend a < 2 ^ 40 := by exact pm) : TSpec Try.prog 155 [] [.ag (fPend a)] false [] (.ag (oPend a)) := by
  unfold totPend at h
  simp only [oPend, fPend]
  have hD := And.intro @mkB.eq_1 (@mkPend.eq_1)
  refine sT 12 [.cell 2 193] Try.func155 fun w0 S0 ρ0 φ0 => ?_
  repeat' (first | apply W.seq | apply W.skip | apply W.region | apply W.block | apply N.code | apply N.blk | apply Sl.nil | apply W.exit | apply W.ret | apply E.hit | apply E.code | apply E.fin | refine zM ?_ | apply O.i | refine sP ?_ | refine sQ fun _ => ?_ | refine sX fun _ => ?_ | (refine k1 false [] c60 ?_; refine k2 toByteS_ok ?_) | refine zI ?_ ?_ | (intro hb; (try simp [-List.getD_eq_getElem?_getD] at hb); (try (exfalso; omega))))
  exact rT

theorem eqPend_ok {a b : PendA} (h : totPend a < 2 ^ 40 := by exact pm) : TSpec Try.prog 152 [] [.ag (fPend a), .ag (fPend b)] false [] (.pl (.bool (decide (a = b)))) := by
  unfold totPend at h
  simp only [fPend]
  have hD := And.intro @mkB.eq_1 (@mkPend.eq_1)
  refine sT 16 [.tmp 4] Try.func152 fun w0 S0 ρ0 φ0 => ?_
  repeat' (first | apply W.seq | apply W.skip | apply W.region | apply W.block | apply N.code | apply N.blk | apply Sl.nil | apply W.exit | apply W.ret | apply E.hit | apply E.code | apply E.fin | refine zM ?_ | apply O.i | refine sP ?_ | refine sQ fun _ => ?_ | refine sX fun _ => ?_ | (refine k1 false [] c28 ?_; refine k2 eqByteS_ok ?_) | refine zI ?_ ?_ | (intro hb; (try simp [-List.getD_eq_getElem?_getD] at hb); (try (exfalso; omega))))
  all_goals (first | rw [show decide (a = b) = false from decide_eq_false fun e => hb (by rw [e])] | rw [show decide (a = b) = true from decide_eq_true (by cases a; cases b; simp_all)])
  all_goals exact rT

theorem szPend_ok {a : PendA} {left : Int} (h : lnPend a := by exact pm) (hp : 0 ≤ left ∧ left < 2 ^ 62 := by exact pm) : TSpec Try.prog 154 [] [.ag (fPend a), .pl (.int .i64 left)] false [] (.pl (.int .i64 (if left < totPend a then -1 else left - totPend a))) := by
  have htot : totPend a = a.Data.length := rfl
  rw [htot]
  unfold lnPend at h
  simp only [fPend]
  have hD := And.intro @mkB.eq_1 (@mkPend.eq_1)
  refine sT 12 [.tmp 4] Try.func154 fun w0 S0 ρ0 φ0 => ?_
  repeat' (first | apply W.seq | apply W.skip | apply W.region | apply W.block | apply N.code | apply N.blk | apply Sl.nil | apply W.exit | apply W.ret | apply E.hit | apply E.code | apply E.fin | refine zM ?_ | apply O.i | refine sP ?_ | refine sQ fun _ => ?_ | refine sX fun _ => ?_ | (refine k1 false [] c153 ?_; refine k2 szByteS_ok ?_) | refine zI ?_ ?_ | (intro hb; (try simp [-List.getD_eq_getElem?_getD] at hb); (try (exfalso; omega))))
  all_goals first | (rw [if_pos (by omega)]; exact rT) | (rw [if_neg (by omega)]; exact rT)

theorem toPendS_ok {xs : List PendA} (h : totPendS xs < 2 ^ 40 := by exact pm) : TSpec Try.prog 100 [] [.pd (encL fPend xs)] false [] (.ow 2 (encL oPend xs)) := by
  have hall : ∀ k, k < xs.length → totPend (xs.getD k default) < 2 ^ 40 := fun k hk => by have := sumN_get totPend xs k hk; unfold totPendS at h; omega
  have hlen : totPendS xs = xs.length + sumN totPend xs := rfl
  have hD := And.intro @mkB.eq_1 (@mkPend.eq_1)
  refine sT 23 [.tmp 2] Try.func100 fun w0 S0 ρ0 φ0 => ?_
  repeat' (first | apply W.seq | apply W.skip | apply W.region | apply W.block | apply N.code | apply N.blk | apply Sl.nil | apply W.exit | apply W.ret | apply E.hit | apply E.code | apply E.fin | refine zM ?_ | apply O.i | refine sP ?_ | refine sQ fun _ => ?_ | refine sX fun _ => ?_ | (refine k1 false [] c155 ?_; refine k2 toPend_ok ?_) | refine zI ?_ ?_ | (intro hb; (try simp [-List.getD_eq_getElem?_getD] at hb); (try (exfalso; omega))))
  refine W.iter (fun k => ⟨23, [(0, .pd (encL fPend xs)), (3, .sl 7 0 xs.length), (4, .pl (.int .i64 k))], [(7, .c 2 (encL oPend (xs.take k) ++ List.replicate (xs.length - k) [.pl (.int .i64 0), .nl]))], []⟩) (fun k => True) (xs.length) (Weak.to (by first | rfl | (simp only [virtAt_n, virt_n]; rfl)) ?s1 ?b1 (by exact dfe)) ?h1 (fun k hk hH => ?body1)
  (try case' s1 => first | exact to1 | (simp +decide only [go_sem]; (try simp (disch := first | exact ds | fail) only [go_sem, Nat.reduceAdd, Nat.reduceMul, Nat.reduceSub, Int.reduceToNat, Int.reduceNeg, Nat.reduceLeDiff, hD]); (try simp only [SV.pl.injEq, SV.sl.injEq, Value.int.injEq, Bk.c.injEq, encI_inj, true_and]); (try omega))); (try case' b1 => first | exact to1 | (simp +decide only [go_sem]; (try simp (disch := first | exact ds | fail) only [go_sem, Nat.reduceAdd, Nat.reduceMul, Nat.reduceSub, Int.reduceToNat, Int.reduceNeg, Nat.reduceLeDiff, hD]); (try simp only [SV.pl.injEq, SV.sl.injEq, Value.int.injEq, Bk.c.injEq, encI_inj, true_and]); (try omega))); (try case' h1 => first | exact to1 | (simp +decide only [go_sem]; (try simp (disch := first | exact ds | fail) only [go_sem, Nat.reduceAdd, Nat.reduceMul, Nat.reduceSub, Int.reduceToNat, Int.reduceNeg, Nat.reduceLeDiff, hD]); (try simp only [SV.pl.injEq, SV.sl.injEq, Value.int.injEq, Bk.c.injEq, encI_inj, true_and]); (try omega)))
  repeat' (first | apply W.seq | apply W.skip | apply W.region | apply W.block | apply N.code | apply N.blk | apply Sl.nil | apply W.exit | apply W.ret | apply E.hit | apply E.code | apply E.fin | refine zM ?_ | apply O.i | refine sP ?_ | refine sQ fun _ => ?_ | refine sX fun _ => ?_ | (refine k1 false [] c155 ?_; refine k2 toPend_ok ?_) | refine zI ?_ ?_ | (intro hb; (try simp [-List.getD_eq_getElem?_getD] at hb); (try (exfalso; omega))))
  · (refine N.fin ⟨by omega, ?h2, ?w2⟩; case' w2 => (refine eF 7 k 1 ?_; refine Weak.to (by first | rfl | (simp only [virtAt_n, virt_n]; rfl)) ?s2 ?b2 (by exact dfe)))
    (try case' s2 => first | exact to1 | (simp +decide only [go_sem]; (try simp (disch := first | exact ds | fail) only [go_sem, Nat.reduceAdd, Nat.reduceMul, Nat.reduceSub, Int.reduceToNat, Int.reduceNeg, Nat.reduceLeDiff, hD]); (try simp only [SV.pl.injEq, SV.sl.injEq, Value.int.injEq, Bk.c.injEq, encI_inj, true_and]); (try omega))); (try case' b2 => first | exact to1 | (simp +decide only [go_sem]; (try simp (disch := first | exact ds | fail) only [go_sem, Nat.reduceAdd, Nat.reduceMul, Nat.reduceSub, Int.reduceToNat, Int.reduceNeg, Nat.reduceLeDiff, hD]); (try simp only [SV.pl.injEq, SV.sl.injEq, Value.int.injEq, Bk.c.injEq, encI_inj, true_and]); (try omega))); (try case' h2 => first | exact to1 | (simp +decide only [go_sem]; (try simp (disch := first | exact ds | fail) only [go_sem, Nat.reduceAdd, Nat.reduceMul, Nat.reduceSub, Int.reduceToNat, Int.reduceNeg, Nat.reduceLeDiff, hD]); (try simp only [SV.pl.injEq, SV.sl.injEq, Value.int.injEq, Bk.c.injEq, encI_inj, true_and]); (try omega)))
    exact to_stepL oPend [.pl (.int .i64 0), .nl] xs k (by omega)
  · obtain rfl : k = xs.length := by omega
    rw [to_allL]
    exact rT

theorem eqPendS_ok {xs ys : List PendA} (h : totPendS xs < 2 ^ 40 := by exact pm) : TSpec Try.prog 90 [] [.pd (encL fPend xs), .pd (encL fPend ys)] false [] (.pl (.bool (decide (xs = ys)))) := by
  have hall : ∀ k, k < xs.length → totPend (xs.getD k default) < 2 ^ 40 := fun k hk => by have := sumN_get totPend xs k hk; unfold totPendS at h; omega
  have hlen : totPendS xs = xs.length + sumN totPend xs := rfl
  have hD := And.intro @mkB.eq_1 (@mkPend.eq_1)
  refine sT 27 [.tmp 4] Try.func90 fun w0 S0 ρ0 φ0 => ?_
  repeat' (first | apply W.seq | apply W.skip | apply W.region | apply W.block | apply N.code | apply N.blk | apply Sl.nil | apply W.exit | apply W.ret | apply E.hit | apply E.code | apply E.fin | refine zM ?_ | apply O.i | refine sP ?_ | refine sQ fun _ => ?_ | (refine rD (id := 6) anyW [] ?_; refine rP 0 false fun _ => ?_; refine rP 1 false fun _ => ?_; refine rP 2 false fun _ => ?_; refine rP 3 true fun _ => ?_; refine rP 4 false fun _ => ?_; refine rP 5 false fun _ => ?_; refine rP 6 false fun _ => ?_; refine rP 7 true fun _ => ?_; refine rO 8 fun _ _ _ _ _ => ?_; refine k1 false [] c152 ?_; refine k2 eqPend_ok ?_; refine rP 9 false fun _ => ?_; refine rE ?_) | refine zI ?_ ?_ | (intro hb; (try simp [-List.getD_eq_getElem?_getD] at hb); (try (exfalso; omega))))
  · have hne : decide (xs = ys) = false := decide_eq_false fun e => hb (by rw [e])
    rw [hne]
    exact rT
  · refine W.iter (fun k => ⟨27, [(0, .pd (encL fPend xs)), (1, .pd (encL fPend ys)), (5, .pl (.int .i64 k))], [], []⟩) (fun k => xs.take k = ys.take k) (xs.length) (Weak.to (by first | rfl | (simp only [virtAt_n, virt_n]; rfl)) ?s3 ?b3 (by exact dfe)) ?h3 (fun k hk hH => ?body3)
    (try case' s3 => first | exact to1 | (simp +decide only [go_sem]; (try simp (disch := first | exact ds | fail) only [go_sem, Nat.reduceAdd, Nat.reduceMul, Nat.reduceSub, Int.reduceToNat, Int.reduceNeg, Nat.reduceLeDiff, hD]); (try simp only [SV.pl.injEq, SV.sl.injEq, Value.int.injEq, Bk.c.injEq, encI_inj, true_and]); (try omega))); (try case' b3 => first | exact to1 | (simp +decide only [go_sem]; (try simp (disch := first | exact ds | fail) only [go_sem, Nat.reduceAdd, Nat.reduceMul, Nat.reduceSub, Int.reduceToNat, Int.reduceNeg, Nat.reduceLeDiff, hD]); (try simp only [SV.pl.injEq, SV.sl.injEq, Value.int.injEq, Bk.c.injEq, encI_inj, true_and]); (try omega))); (try case' h3 => first | exact to1 | (simp +decide only [go_sem]; (try simp (disch := first | exact ds | fail) only [go_sem, Nat.reduceAdd, Nat.reduceMul, Nat.reduceSub, Int.reduceToNat, Int.reduceNeg, Nat.reduceLeDiff, hD]); (try simp only [SV.pl.injEq, SV.sl.injEq, Value.int.injEq, Bk.c.injEq, encI_inj, true_and]); (try omega)))
    repeat' (first | apply W.seq | apply W.skip | apply W.region | apply W.block | apply N.code | apply N.blk | apply Sl.nil | apply W.exit | apply W.ret | apply E.hit | apply E.code | apply E.fin | refine zM ?_ | apply O.i | refine sP ?_ | refine sQ fun _ => ?_ | (refine rD (id := 6) anyW [] ?_; refine rP 0 false fun _ => ?_; refine rP 1 false fun _ => ?_; refine rP 2 false fun _ => ?_; refine rP 3 true fun _ => ?_; refine rP 4 false fun _ => ?_; refine rP 5 false fun _ => ?_; refine rP 6 false fun _ => ?_; refine rP 7 true fun _ => ?_; refine rO 8 fun _ _ _ _ _ => ?_; refine k1 false [] c152 ?_; refine k2 eqPend_ok ?_; refine rP 9 false fun _ => ?_; refine rE ?_) | refine zI ?_ ?_ | (intro hb; (try simp [-List.getD_eq_getElem?_getD] at hb); (try (exfalso; omega))))
    · rw [decide_ne_of_take default k hb]
      exact rT
    · (refine N.fin ⟨by omega, ?h4, ?w4⟩; case' w4 => (refine Weak.to (by first | rfl | (simp only [virtAt_n, virt_n]; rfl)) ?s4 ?b4 (by exact dfe)))
      (try case' s4 => first | exact to1 | (simp +decide only [go_sem]; (try simp (disch := first | exact ds | fail) only [go_sem, Nat.reduceAdd, Nat.reduceMul, Nat.reduceSub, Int.reduceToNat, Int.reduceNeg, Nat.reduceLeDiff, hD]); (try simp only [SV.pl.injEq, SV.sl.injEq, Value.int.injEq, Bk.c.injEq, encI_inj, true_and]); (try omega))); (try case' b4 => first | exact to1 | (simp +decide only [go_sem]; (try simp (disch := first | exact ds | fail) only [go_sem, Nat.reduceAdd, Nat.reduceMul, Nat.reduceSub, Int.reduceToNat, Int.reduceNeg, Nat.reduceLeDiff, hD]); (try simp only [SV.pl.injEq, SV.sl.injEq, Value.int.injEq, Bk.c.injEq, encI_inj, true_and]); (try omega))); (try case' h4 => first | exact to1 | (simp +decide only [go_sem]; (try simp (disch := first | exact ds | fail) only [go_sem, Nat.reduceAdd, Nat.reduceMul, Nat.reduceSub, Int.reduceToNat, Int.reduceNeg, Nat.reduceLeDiff, hD]); (try simp only [SV.pl.injEq, SV.sl.injEq, Value.int.injEq, Bk.c.injEq, encI_inj, true_and]); (try omega)))
      exact take_eq_step default xs ys k (by omega) (by omega) hH hb
    · rw [decide_eq_true (take_all_eq hH (by omega) (by omega))]
      exact rT

theorem markPendS_ok {xs : List PendA} {b : Int} (h : totPendS xs < 2 ^ 40 := by exact pm) (hp : 0 ≤ b ∧ b + sumN ctPend xs < 2 ^ 62 := by exact pm) : TSpec Try.prog 92 [(1000000, .c 2 (encL oPend xs))] [.sl 1000000 0 xs.length, .pl (.int .i64 b)] false [(1000000, .c 2 (encL oPend (mkS mkPend ctPend b xs)))] (.pl (.int .i64 (b + sumN ctPend xs))) := by
  have hall : ∀ k, k < xs.length → totPend (xs.getD k default) < 2 ^ 40 := fun k hk => by have := sumN_get totPend xs k hk; unfold totPendS at h; omega
  have hlen : totPendS xs = xs.length + sumN totPend xs := rfl
  have hD := And.intro @mkB.eq_1 (@mkPend.eq_1)
  refine sT 27 [.tmp 4] Try.func92 fun w0 S0 ρ0 φ0 => ?_
  repeat' (first | apply W.seq | apply W.skip | apply W.region | apply W.block | apply N.code | apply N.blk | apply Sl.nil | apply W.exit | apply W.ret | apply E.hit | apply E.code | apply E.fin | refine zM ?_ | apply O.i | refine sP ?_ | refine sQ fun _ => ?_ | refine sX fun _ => ?_ | (refine k1 false [(1000000, 0, none)] c29 ?_; refine k2 markByteS_ok ?_) | refine zI ?_ ?_ | (intro hb; (try simp [-List.getD_eq_getElem?_getD] at hb); (try (exfalso; omega))))
  refine W.iter (fun k => ⟨27, [(0, .sl 1000000 0 xs.length), (1, .pl (.int .i64 (b + sumN ctPend (xs.take k)))), (5, .pl (.int .i64 k))], [(1000000, .c 2 (encL oPend ((mkS mkPend ctPend b xs).take k ++ xs.drop k)))], []⟩) (fun k => True) (xs.length) (Weak.to (by first | rfl | (simp only [virtAt_n, virt_n]; rfl)) ?s5 ?b5 (by exact dfe)) ?h5 (fun k hk hH => ?body5)
  (try case' s5 => first | exact to1 | (simp +decide only [go_sem]; (try simp (disch := first | exact ds | fail) only [go_sem, Nat.reduceAdd, Nat.reduceMul, Nat.reduceSub, Int.reduceToNat, Int.reduceNeg, Nat.reduceLeDiff, hD]); (try simp only [SV.pl.injEq, SV.sl.injEq, Value.int.injEq, Bk.c.injEq, encI_inj, true_and]); (try omega))); (try case' b5 => first | exact to1 | (simp +decide only [go_sem]; (try simp (disch := first | exact ds | fail) only [go_sem, Nat.reduceAdd, Nat.reduceMul, Nat.reduceSub, Int.reduceToNat, Int.reduceNeg, Nat.reduceLeDiff, hD]); (try simp only [SV.pl.injEq, SV.sl.injEq, Value.int.injEq, Bk.c.injEq, encI_inj, true_and]); (try omega))); (try case' h5 => first | exact to1 | (simp +decide only [go_sem]; (try simp (disch := first | exact ds | fail) only [go_sem, Nat.reduceAdd, Nat.reduceMul, Nat.reduceSub, Int.reduceToNat, Int.reduceNeg, Nat.reduceLeDiff, hD]); (try simp only [SV.pl.injEq, SV.sl.injEq, Value.int.injEq, Bk.c.injEq, encI_inj, true_and]); (try omega)))
  have hsk := sumN_le ctPend xs k
  repeat' (first | apply W.seq | apply W.skip | refine W.region (id := 0) ?_ | refine W.region (id := 1) ?_ | refine W.region (id := 2) ?_ | refine W.region (id := 5) ?_ | refine W.region (id := 6) ?_ | refine W.region (id := 3) ?_ | refine W.region (id := 7) ?_ | apply W.block | apply N.code | apply N.blk | apply Sl.nil | apply W.exit | apply W.ret | apply E.hit | apply E.code | apply E.fin | refine zM ?_ | apply O.i | refine sP ?_ | refine sQ fun _ => ?_ | refine sX fun _ => ?_ | (refine k1 false [(1000000, 0, none)] c29 ?_; refine k2 markByteS_ok ?_) | refine zI ?_ ?_ | (intro hb; (try simp [-List.getD_eq_getElem?_getD] at hb); (try (exfalso; omega))))
  · have hst := sumN_step ctPend xs k hb
    have hsg := sumN_get ctPend xs k hb
    have hct : ctPend (xs.getD k default) = 1 + (xs.getD k default).Data.length := rfl
    have hto : totPend (xs.getD k default) = (xs.getD k default).Data.length := rfl
    have hak := hall k (by omega)
    (refine gU 1000000 k 1 2000001 ?_)
    repeat' (first | apply W.seq | apply W.skip | apply W.region | apply W.block | apply N.code | apply N.blk | apply Sl.nil | apply W.exit | apply W.ret | apply E.hit | apply E.code | apply E.fin | refine zM ?_ | apply O.i | refine sP ?_ | refine sQ fun _ => ?_ | refine sX fun _ => ?_ | (refine k1 false [(1000000, 0, none)] c29 ?_; refine k2 markByteS_ok ?_) | refine zI ?_ ?_ | (intro hb; (try simp [-List.getD_eq_getElem?_getD] at hb); (try (exfalso; omega))))
    (refine N.fin ⟨by omega, ?h6, ?w6⟩; case' w6 => (refine eF 1000000 k 1 ?_; refine Weak.to (by first | rfl | (simp only [virtAt_n, virt_n]; rfl)) ?s6 ?b6 (by exact dfe)))
    (try case' s6 => first | exact to1 | (simp +decide only [go_sem]; (try simp (disch := first | exact ds | fail) only [go_sem, Nat.reduceAdd, Nat.reduceMul, Nat.reduceSub, Int.reduceToNat, Int.reduceNeg, Nat.reduceLeDiff, hD]); (try simp only [SV.pl.injEq, SV.sl.injEq, Value.int.injEq, Bk.c.injEq, encI_inj, true_and]); (try omega))); (try case' b6 => first | exact to1 | (simp +decide only [go_sem]; (try simp (disch := first | exact ds | fail) only [go_sem, Nat.reduceAdd, Nat.reduceMul, Nat.reduceSub, Int.reduceToNat, Int.reduceNeg, Nat.reduceLeDiff, hD]); (try simp only [SV.pl.injEq, SV.sl.injEq, Value.int.injEq, Bk.c.injEq, encI_inj, true_and]); (try omega))); (try case' h6 => first | exact to1 | (simp +decide only [go_sem]; (try simp (disch := first | exact ds | fail) only [go_sem, Nat.reduceAdd, Nat.reduceMul, Nat.reduceSub, Int.reduceToNat, Int.reduceNeg, Nat.reduceLeDiff, hD]); (try simp only [SV.pl.injEq, SV.sl.injEq, Value.int.injEq, Bk.c.injEq, encI_inj, true_and]); (try omega)))
    exact mk_nextL oPend mkPend ctPend b xs k (by omega)
  · obtain rfl : k = xs.length := by omega
    rw [take_drop_all _ _ (by simp)]
    exact rT

theorem heldPendS_ok {xs : List PendA} {b : Int} (h : totPendS xs < 2 ^ 40 := by exact pm) (hp : 0 ≤ b ∧ b + sumN ctPend xs < 2 ^ 62 := by exact pm) : TSpec Try.prog 94 [] [.pd (encL fPend (mkS mkPend ctPend b xs)), .pl (.int .i64 b)] false [] (.pl (.int .i64 (b + sumN ctPend xs))) := by
  have hall : ∀ k, k < xs.length → totPend (xs.getD k default) < 2 ^ 40 := fun k hk => by have := sumN_get totPend xs k hk; unfold totPendS at h; omega
  have hlen : totPendS xs = xs.length + sumN totPend xs := rfl
  have hD := And.intro @mkB.eq_1 (@mkPend.eq_1)
  refine sT 31 [.tmp 4] Try.func94 fun w0 S0 ρ0 φ0 => ?_
  repeat' (first | apply W.seq | apply W.skip | apply W.region | apply W.block | apply N.code | apply N.blk | apply Sl.nil | apply W.exit | apply W.ret | apply E.hit | apply E.code | apply E.fin | refine zM ?_ | apply O.i | refine sP ?_ | refine sQ fun _ => ?_ | (refine k1 false [] c30 ?_; refine k2 heldByteS_ok ?_) | refine zI ?_ ?_ | (intro hb; (try simp [-List.getD_eq_getElem?_getD] at hb); (try (exfalso; omega))))
  refine W.iter (fun k => ⟨31, [(0, .pd (encL fPend (mkS mkPend ctPend b xs))), (1, .pl (.int .i64 (b + sumN ctPend (xs.take k)))), (5, .pl (.int .i64 k))], [], []⟩) (fun k => True) (xs.length) (Weak.to (by first | rfl | (simp only [virtAt_n, virt_n]; rfl)) ?s7 ?b7 (by exact dfe)) ?h7 (fun k hk hH => ?body7)
  (try case' s7 => first | exact to1 | (simp +decide only [go_sem]; (try simp (disch := first | exact ds | fail) only [go_sem, Nat.reduceAdd, Nat.reduceMul, Nat.reduceSub, Int.reduceToNat, Int.reduceNeg, Nat.reduceLeDiff, hD]); (try simp only [SV.pl.injEq, SV.sl.injEq, Value.int.injEq, Bk.c.injEq, encI_inj, true_and]); (try omega))); (try case' b7 => first | exact to1 | (simp +decide only [go_sem]; (try simp (disch := first | exact ds | fail) only [go_sem, Nat.reduceAdd, Nat.reduceMul, Nat.reduceSub, Int.reduceToNat, Int.reduceNeg, Nat.reduceLeDiff, hD]); (try simp only [SV.pl.injEq, SV.sl.injEq, Value.int.injEq, Bk.c.injEq, encI_inj, true_and]); (try omega))); (try case' h7 => first | exact to1 | (simp +decide only [go_sem]; (try simp (disch := first | exact ds | fail) only [go_sem, Nat.reduceAdd, Nat.reduceMul, Nat.reduceSub, Int.reduceToNat, Int.reduceNeg, Nat.reduceLeDiff, hD]); (try simp only [SV.pl.injEq, SV.sl.injEq, Value.int.injEq, Bk.c.injEq, encI_inj, true_and]); (try omega)))
  have hsk := sumN_le ctPend xs k
  repeat' (first | apply W.seq | apply W.skip | refine W.region (id := 0) ?_ | refine W.region (id := 1) ?_ | refine W.region (id := 2) ?_ | refine W.region (id := 5) ?_ | refine W.region (id := 6) ?_ | refine W.region (id := 7) ?_ | refine W.region (id := 8) ?_ | refine W.region (id := 9) ?_ | refine W.region (id := 3) ?_ | refine W.region (id := 10) ?_ | apply W.block | apply N.code | apply N.blk | apply Sl.nil | apply W.exit | apply W.ret | apply E.hit | apply E.code | apply E.fin | refine zM ?_ | apply O.i | refine sP ?_ | refine sQ fun _ => ?_ | (refine k1 false [] c30 ?_; refine k2 heldByteS_ok ?_) | refine zI ?_ ?_ | (intro hb; (try simp [-List.getD_eq_getElem?_getD] at hb); (try (exfalso; omega))))
  · have hst := sumN_step ctPend xs k hb
    have hsg := sumN_get ctPend xs k hb
    have hct : ctPend (xs.getD k default) = 1 + (xs.getD k default).Data.length := rfl
    have hto : totPend (xs.getD k default) = (xs.getD k default).Data.length := rfl
    have hak := hall k (by omega)
    repeat' (first | apply W.seq | apply W.skip | apply W.region | apply W.block | apply N.code | apply N.blk | apply Sl.nil | apply W.exit | apply W.ret | apply E.hit | apply E.code | apply E.fin | refine zM ?_ | apply O.i | refine sP ?_ | refine sQ fun _ => ?_ | (refine k1 false [] c30 ?_; refine k2 heldByteS_ok ?_) | refine zI ?_ ?_ | (intro hb; (try simp [-List.getD_eq_getElem?_getD] at hb); (try (exfalso; omega))))
    (refine N.fin ⟨by omega, ?h8, ?w8⟩; case' w8 => (refine Weak.to (by first | rfl | (simp only [virtAt_n, virt_n]; rfl)) ?s8 ?b8 (by exact dfe)))
    (try case' s8 => first | exact to1 | (simp +decide only [go_sem]; (try simp (disch := first | exact ds | fail) only [go_sem, Nat.reduceAdd, Nat.reduceMul, Nat.reduceSub, Int.reduceToNat, Int.reduceNeg, Nat.reduceLeDiff, hD]); (try simp only [SV.pl.injEq, SV.sl.injEq, Value.int.injEq, Bk.c.injEq, encI_inj, true_and]); (try omega))); (try case' b8 => first | exact to1 | (simp +decide only [go_sem]; (try simp (disch := first | exact ds | fail) only [go_sem, Nat.reduceAdd, Nat.reduceMul, Nat.reduceSub, Int.reduceToNat, Int.reduceNeg, Nat.reduceLeDiff, hD]); (try simp only [SV.pl.injEq, SV.sl.injEq, Value.int.injEq, Bk.c.injEq, encI_inj, true_and]); (try omega))); (try case' h8 => first | exact to1 | (simp +decide only [go_sem]; (try simp (disch := first | exact ds | fail) only [go_sem, Nat.reduceAdd, Nat.reduceMul, Nat.reduceSub, Int.reduceToNat, Int.reduceNeg, Nat.reduceLeDiff, hD]); (try simp only [SV.pl.injEq, SV.sl.injEq, Value.int.injEq, Bk.c.injEq, encI_inj, true_and]); (try omega)))
  · obtain rfl : k = xs.length := by omega
    exact rT

theorem szPendS_ok {xs : List PendA} {left : Int} (h : lnPendS xs := by exact pm) (hp : 0 ≤ left ∧ left < 2 ^ 62 := by exact pm) : TSpec Try.prog 96 [] [.pd (encL fPend xs), .pl (.int .i64 left)] false [] (.pl (.int .i64 (if left < totPendS xs then -1 else left - totPendS xs))) := by
  have hall := h.2
  have hl := h.1
  have hlen : totPendS xs = xs.length + sumN totPend xs := rfl
  have hD := And.intro @mkB.eq_1 (@mkPend.eq_1)
  refine sT 27 [.tmp 4] Try.func96 fun w0 S0 ρ0 φ0 => ?_
  repeat' (first | apply W.seq | apply W.skip | apply W.region | apply W.block | apply N.code | apply N.blk | apply Sl.nil | apply W.exit | apply W.ret | apply E.hit | apply E.code | apply E.fin | refine zM ?_ | apply O.i | refine sP ?_ | refine sQ fun _ => ?_ | (refine k1 false [] c154 ?_; refine k2 szPend_ok ?_) | refine zI ?_ ?_ | (intro hb; (try simp [-List.getD_eq_getElem?_getD] at hb); (try (exfalso; omega))))
  · rw [if_pos (by omega)]
    exact rT
  · refine W.iter (fun k => ⟨27, [(0, .pd (encL fPend xs)), (1, .pl (.int .i64 (left - xs.length - sumN totPend (xs.take k)))), (5, .pl (.int .i64 k))], [], []⟩) (fun k => (sumN totPend (xs.take k) : Int) ≤ left - xs.length) (xs.length) (Weak.to (by first | rfl | (simp only [virtAt_n, virt_n]; rfl)) ?s9 ?b9 (by exact dfe)) ?h9 (fun k hk hH => ?body9)
    (try case' s9 => first | exact to1 | (simp +decide only [go_sem]; (try simp (disch := first | exact ds | fail) only [go_sem, Nat.reduceAdd, Nat.reduceMul, Nat.reduceSub, Int.reduceToNat, Int.reduceNeg, Nat.reduceLeDiff, hD]); (try simp only [SV.pl.injEq, SV.sl.injEq, Value.int.injEq, Bk.c.injEq, encI_inj, true_and]); (try omega))); (try case' b9 => first | exact to1 | (simp +decide only [go_sem]; (try simp (disch := first | exact ds | fail) only [go_sem, Nat.reduceAdd, Nat.reduceMul, Nat.reduceSub, Int.reduceToNat, Int.reduceNeg, Nat.reduceLeDiff, hD]); (try simp only [SV.pl.injEq, SV.sl.injEq, Value.int.injEq, Bk.c.injEq, encI_inj, true_and]); (try omega))); (try case' h9 => first | exact to1 | (simp +decide only [go_sem]; (try simp (disch := first | exact ds | fail) only [go_sem, Nat.reduceAdd, Nat.reduceMul, Nat.reduceSub, Int.reduceToNat, Int.reduceNeg, Nat.reduceLeDiff, hD]); (try simp only [SV.pl.injEq, SV.sl.injEq, Value.int.injEq, Bk.c.injEq, encI_inj, true_and]); (try omega)))
    have hsk := sumN_le totPend xs k
    repeat' (first | apply W.seq | apply W.skip | refine W.region (id := 0) ?_ | refine W.region (id := 1) ?_ | refine W.region (id := 2) ?_ | refine W.region (id := 3) ?_ | refine W.region (id := 4) ?_ | refine W.region (id := 5) ?_ | refine W.region (id := 8) ?_ | refine W.region (id := 9) ?_ | refine W.region (id := 6) ?_ | refine W.region (id := 10) ?_ | apply W.block | apply N.code | apply N.blk | apply Sl.nil | apply W.exit | apply W.ret | apply E.hit | apply E.code | apply E.fin | refine zM ?_ | apply O.i | refine sP ?_ | refine sQ fun _ => ?_ | (refine k1 false [] c154 ?_; refine k2 szPend_ok ?_) | refine zI ?_ ?_ | (intro hb; (try simp [-List.getD_eq_getElem?_getD] at hb); (try (exfalso; omega))))
    · have hst := sumN_step totPend xs k hb
      have hsg := sumN_get totPend xs k hb
      repeat' (first | apply W.seq | apply W.skip | apply W.region | apply W.block | apply N.code | apply N.blk | apply Sl.nil | apply W.exit | apply W.ret | apply E.hit | apply E.code | apply E.fin | refine zM ?_ | apply O.i | refine sP ?_ | refine sQ fun _ => ?_ | (refine k1 false [] c154 ?_; refine k2 szPend_ok ?_) | refine zI ?_ ?_ | (intro hb; (try simp [-List.getD_eq_getElem?_getD] at hb); (try (exfalso; omega))))
      · rw [if_pos (by omega)]
        exact rT
      · (refine N.fin ⟨by omega, ?h10, ?w10⟩; case' w10 => (refine Weak.to (by first | rfl | (simp only [virtAt_n, virt_n]; rfl)) ?s10 ?b10 (by exact dfe)))
        (try case' s10 => first | exact to1 | (simp +decide only [go_sem]; (try simp (disch := first | exact ds | fail) only [go_sem, Nat.reduceAdd, Nat.reduceMul, Nat.reduceSub, Int.reduceToNat, Int.reduceNeg, Nat.reduceLeDiff, hD]); (try simp only [SV.pl.injEq, SV.sl.injEq, Value.int.injEq, Bk.c.injEq, encI_inj, true_and]); (try omega))); (try case' b10 => first | exact to1 | (simp +decide only [go_sem]; (try simp (disch := first | exact ds | fail) only [go_sem, Nat.reduceAdd, Nat.reduceMul, Nat.reduceSub, Int.reduceToNat, Int.reduceNeg, Nat.reduceLeDiff, hD]); (try simp only [SV.pl.injEq, SV.sl.injEq, Value.int.injEq, Bk.c.injEq, encI_inj, true_and]); (try omega))); (try case' h10 => first | exact to1 | (simp +decide only [go_sem]; (try simp (disch := first | exact ds | fail) only [go_sem, Nat.reduceAdd, Nat.reduceMul, Nat.reduceSub, Int.reduceToNat, Int.reduceNeg, Nat.reduceLeDiff, hD]); (try simp only [SV.pl.injEq, SV.sl.injEq, Value.int.injEq, Bk.c.injEq, encI_inj, true_and]); (try omega)))
    · obtain rfl : k = xs.length := by omega
      rw [List.take_length] at hH
      rw [if_neg (by omega)]
      exact rT

end Go.Proofs.Ytfmbifnbmlhhjaa

