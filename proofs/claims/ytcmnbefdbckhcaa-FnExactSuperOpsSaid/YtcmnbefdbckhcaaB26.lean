import Derived.Test.YtcmnbefdbckhcaaA2
import Derived.Test.YtcmnbefdbckhcaaB16
namespace Go.Proofs.Ytcmnbefdbckhcaa
open Go Go.Vcg Go.IntWalk
set_option maxRecDepth 100000
set_option maxHeartbeats 4000000
set_option linter.unusedSimpArgs false
set_option linter.unusedVariables false

theorem c69 : CallOk Try.prog 69 := ⟨_, Try.func69, rfl, by kernel_rfl⟩
theorem c22 : CallOk Try.prog 22 := ⟨_, Try.func22, rfl, by kernel_rfl⟩
theorem c24 : CallOk Try.prog 24 := ⟨_, Try.func24, rfl, by kernel_rfl⟩
theorem c25 : CallOk Try.prog 25 := ⟨_, Try.func25, rfl, by kernel_rfl⟩
structure OpA where
  Kind : Int
  At : Int
  Data : List Int
  deriving DecidableEq, Inhabited
def oOp (a : OpA) : List SV := [.pl (.int .i64 a.Kind), .pl (.int .i64 a.At), .ow 1 (encI .u8 a.Data)]
def fOp (a : OpA) : List SV := [.pl (.int .i64 a.Kind), .pl (.int .i64 a.At), .pd (encI .u8 a.Data)]
def totOp (a : OpA) : Nat := a.Data.length
def lnOp (a : OpA) : Prop := a.Data.length < 2 ^ 50
def ctOp (a : OpA) : Nat := 1 + 1 + a.Data.length
def mkOp (b : Int) (a : OpA) : OpA := ⟨b, b + 1, markL .u8 (b + 1 + 1) a.Data.length⟩
theorem oOp_clo (xs : List OpA) : cloRows (encL oOp xs) = true := encL_clo _ (fun x => by simp [oOp, fPoint_clo, fPoint_shut, fPoint_frz, SV.clo, SV.clo0, encI_clo, encI_shut, encI_frz, shutL, SV.shut, frzL, SV.frz, cloRow, oB_clo, oB_shut, oB_frz]) xs
theorem oOp_shut (xs : List OpA) : shutRows (encL oOp xs) = true := encL_shut _ (fun x => by simp [oOp, fPoint_clo, fPoint_shut, fPoint_frz, SV.clo, SV.clo0, encI_clo, encI_shut, encI_frz, shutL, SV.shut, frzL, SV.frz, cloRow, oB_clo, oB_shut, oB_frz]) xs
theorem oOp_frz (xs : List OpA) : frzRows (encL oOp xs) = encL fOp xs := encL_frz _ (fun x => by simp [oOp, fOp, fPoint_clo, fPoint_shut, fPoint_frz, SV.clo, SV.clo0, encI_clo, encI_shut, encI_frz, shutL, SV.shut, frzL, SV.frz, cloRow, oB_clo, oB_shut, oB_frz]) xs
theorem oOp_len (xs : List OpA) : RowsLen (encL oOp xs) 3 = True := encL_rowsLen oOp (fun x => by rfl) xs
attribute [go_sem] oOp fOp oOp_clo oOp_shut oOp_frz oOp_len
def totOpS (xs : List OpA) : Nat := xs.length + sumN totOp xs
def lnOpS (xs : List OpA) : Prop := xs.length < 2 ^ 50 ∧ ∀ k, k < xs.length → lnOp (xs.getD k default)
theorem eqOp_ok {a b : OpA} (h : totOp a < 2 ^ 40 := by exact pm) : TSpec Try.prog 69 [] [.ag (fOp a), .ag (fOp b)] false [] (.pl (.bool (decide (a = b)))) := by
  unfold totOp at h
  simp only [fOp]
  have hD := And.intro @mkB.eq_1 (@mkOp.eq_1)
  refine sT 21 [.tmp 4] Try.func69 fun w0 S0 ρ0 φ0 => ?_
  repeat' (first | apply W.seq | apply W.skip | apply W.region | apply W.block | apply N.code | apply N.blk | apply Sl.nil | apply W.exit | apply W.ret | apply E.hit | apply E.code | apply E.fin | refine zM ?_ | apply O.i | refine sP ?_ | refine sQ fun _ => ?_ | refine sX fun _ => ?_ | (refine k1 false [] c19 ?_; refine k2 eqByteS_ok ?_) | refine zI ?_ ?_ | (intro hb; (try simp [-List.getD_eq_getElem?_getD] at hb); (try (exfalso; omega))))
  all_goals (first | rw [show decide (a = b) = false from decide_eq_false fun e => hb (by rw [e])] | rw [show decide (a = b) = true from decide_eq_true (by cases a; cases b; simp_all)])
  all_goals exact rT

theorem eqOpS_ok {xs ys : List OpA} (h : totOpS xs < 2 ^ 40 := by exact pm) : TSpec Try.prog 22 [] [.pd (encL fOp xs), .pd (encL fOp ys)] false [] (.pl (.bool (decide (xs = ys)))) := by
  have hall : ∀ k, k < xs.length → totOp (xs.getD k default) < 2 ^ 40 := fun k hk => by have := sumN_get totOp xs k hk; unfold totOpS at h; omega
  have hlen : totOpS xs = xs.length + sumN totOp xs := rfl
  have hD := And.intro @mkB.eq_1 (@mkOp.eq_1)
  refine sT 27 [.tmp 4] Try.func22 fun w0 S0 ρ0 φ0 => ?_
  repeat' (first | apply W.seq | apply W.skip | apply W.region | apply W.block | apply N.code | apply N.blk | apply Sl.nil | apply W.exit | apply W.ret | apply E.hit | apply E.code | apply E.fin | refine zM ?_ | apply O.i | refine sP ?_ | refine sQ fun _ => ?_ | (refine rD (id := 6) anyW [] ?_; refine rP 0 false fun _ => ?_; refine rP 1 false fun _ => ?_; refine rP 2 false fun _ => ?_; refine rP 3 true fun _ => ?_; refine rP 4 false fun _ => ?_; refine rP 5 false fun _ => ?_; refine rP 6 false fun _ => ?_; refine rP 7 true fun _ => ?_; refine rO 8 fun _ _ _ _ _ => ?_; refine k1 false [] c69 ?_; refine k2 eqOp_ok ?_; refine rP 9 false fun _ => ?_; refine rE ?_) | refine zI ?_ ?_ | (intro hb; (try simp [-List.getD_eq_getElem?_getD] at hb); (try (exfalso; omega))))
  · have hne : decide (xs = ys) = false := decide_eq_false fun e => hb (by rw [e])
    rw [hne]
    exact rT
  · refine W.iter (fun k => ⟨27, [(0, .pd (encL fOp xs)), (1, .pd (encL fOp ys)), (5, .pl (.int .i64 k))], []⟩) (fun k => xs.take k = ys.take k) (xs.length) (Weak.to rfl ?s1 ?b1) ?h1 (fun k hk hH => ?body1)
    (try case' s1 => first | exact to1 | (simp +decide only [go_sem]; (try simp (disch := first | exact ds | fail) only [go_sem, Nat.reduceAdd, Nat.reduceMul, Nat.reduceSub, Int.reduceToNat, Int.reduceNeg, Nat.reduceLeDiff, hD]); (try simp only [SV.pl.injEq, SV.sl.injEq, Value.int.injEq, Bk.c.injEq, encI_inj, true_and]); (try omega))); (try case' b1 => first | exact to1 | (simp +decide only [go_sem]; (try simp (disch := first | exact ds | fail) only [go_sem, Nat.reduceAdd, Nat.reduceMul, Nat.reduceSub, Int.reduceToNat, Int.reduceNeg, Nat.reduceLeDiff, hD]); (try simp only [SV.pl.injEq, SV.sl.injEq, Value.int.injEq, Bk.c.injEq, encI_inj, true_and]); (try omega))); (try case' h1 => first | exact to1 | (simp +decide only [go_sem]; (try simp (disch := first | exact ds | fail) only [go_sem, Nat.reduceAdd, Nat.reduceMul, Nat.reduceSub, Int.reduceToNat, Int.reduceNeg, Nat.reduceLeDiff, hD]); (try simp only [SV.pl.injEq, SV.sl.injEq, Value.int.injEq, Bk.c.injEq, encI_inj, true_and]); (try omega)))
    repeat' (first | apply W.seq | apply W.skip | apply W.region | apply W.block | apply N.code | apply N.blk | apply Sl.nil | apply W.exit | apply W.ret | apply E.hit | apply E.code | apply E.fin | refine zM ?_ | apply O.i | refine sP ?_ | refine sQ fun _ => ?_ | (refine rD (id := 6) anyW [] ?_; refine rP 0 false fun _ => ?_; refine rP 1 false fun _ => ?_; refine rP 2 false fun _ => ?_; refine rP 3 true fun _ => ?_; refine rP 4 false fun _ => ?_; refine rP 5 false fun _ => ?_; refine rP 6 false fun _ => ?_; refine rP 7 true fun _ => ?_; refine rO 8 fun _ _ _ _ _ => ?_; refine k1 false [] c69 ?_; refine k2 eqOp_ok ?_; refine rP 9 false fun _ => ?_; refine rE ?_) | refine zI ?_ ?_ | (intro hb; (try simp [-List.getD_eq_getElem?_getD] at hb); (try (exfalso; omega))))
    · rw [decide_ne_of_take default k hb]
      exact rT
    · (refine N.fin ⟨by omega, ?h2, ?w2⟩; case' w2 => (refine Weak.to rfl ?s2 ?b2))
      (try case' s2 => first | exact to1 | (simp +decide only [go_sem]; (try simp (disch := first | exact ds | fail) only [go_sem, Nat.reduceAdd, Nat.reduceMul, Nat.reduceSub, Int.reduceToNat, Int.reduceNeg, Nat.reduceLeDiff, hD]); (try simp only [SV.pl.injEq, SV.sl.injEq, Value.int.injEq, Bk.c.injEq, encI_inj, true_and]); (try omega))); (try case' b2 => first | exact to1 | (simp +decide only [go_sem]; (try simp (disch := first | exact ds | fail) only [go_sem, Nat.reduceAdd, Nat.reduceMul, Nat.reduceSub, Int.reduceToNat, Int.reduceNeg, Nat.reduceLeDiff, hD]); (try simp only [SV.pl.injEq, SV.sl.injEq, Value.int.injEq, Bk.c.injEq, encI_inj, true_and]); (try omega))); (try case' h2 => first | exact to1 | (simp +decide only [go_sem]; (try simp (disch := first | exact ds | fail) only [go_sem, Nat.reduceAdd, Nat.reduceMul, Nat.reduceSub, Int.reduceToNat, Int.reduceNeg, Nat.reduceLeDiff, hD]); (try simp only [SV.pl.injEq, SV.sl.injEq, Value.int.injEq, Bk.c.injEq, encI_inj, true_and]); (try omega)))
      exact take_eq_step default xs ys k (by omega) (by omega) hH hb
    · rw [decide_eq_true (take_all_eq hH (by omega) (by omega))]
      exact rT

theorem markOpS_ok {xs : List OpA} {b : Int} (h : totOpS xs < 2 ^ 40 := by exact pm) (hp : 0 ≤ b ∧ b + sumN ctOp xs < 2 ^ 62 := by exact pm) : TSpec Try.prog 24 [(1000000, .c 3 (encL oOp xs))] [.sl 1000000 0 xs.length, .pl (.int .i64 b)] false [(1000000, .c 3 (encL oOp (mkS mkOp ctOp b xs)))] (.pl (.int .i64 (b + sumN ctOp xs))) := by
  have hall : ∀ k, k < xs.length → totOp (xs.getD k default) < 2 ^ 40 := fun k hk => by have := sumN_get totOp xs k hk; unfold totOpS at h; omega
  have hlen : totOpS xs = xs.length + sumN totOp xs := rfl
  have hD := And.intro @mkB.eq_1 (@mkOp.eq_1)
  refine sT 34 [.tmp 4] Try.func24 fun w0 S0 ρ0 φ0 => ?_
  repeat' (first | apply W.seq | apply W.skip | apply W.region | apply W.block | apply N.code | apply N.blk | apply Sl.nil | apply W.exit | apply W.ret | apply E.hit | apply E.code | apply E.fin | refine zM ?_ | apply O.i | refine sP ?_ | refine sQ fun _ => ?_ | refine sX fun _ => ?_ | (refine k1 false [(1000000, 0, none)] c23 ?_; refine k2 markByteS_ok ?_) | refine zI ?_ ?_ | (intro hb; (try simp [-List.getD_eq_getElem?_getD] at hb); (try (exfalso; omega))))
  refine W.iter (fun k => ⟨34, [(0, .sl 1000000 0 xs.length), (1, .pl (.int .i64 (b + sumN ctOp (xs.take k)))), (5, .pl (.int .i64 k))], [(1000000, .c 3 (encL oOp ((mkS mkOp ctOp b xs).take k ++ xs.drop k)))]⟩) (fun k => True) (xs.length) (Weak.to rfl ?s3 ?b3) ?h3 (fun k hk hH => ?body3)
  (try case' s3 => first | exact to1 | (simp +decide only [go_sem]; (try simp (disch := first | exact ds | fail) only [go_sem, Nat.reduceAdd, Nat.reduceMul, Nat.reduceSub, Int.reduceToNat, Int.reduceNeg, Nat.reduceLeDiff, hD]); (try simp only [SV.pl.injEq, SV.sl.injEq, Value.int.injEq, Bk.c.injEq, encI_inj, true_and]); (try omega))); (try case' b3 => first | exact to1 | (simp +decide only [go_sem]; (try simp (disch := first | exact ds | fail) only [go_sem, Nat.reduceAdd, Nat.reduceMul, Nat.reduceSub, Int.reduceToNat, Int.reduceNeg, Nat.reduceLeDiff, hD]); (try simp only [SV.pl.injEq, SV.sl.injEq, Value.int.injEq, Bk.c.injEq, encI_inj, true_and]); (try omega))); (try case' h3 => first | exact to1 | (simp +decide only [go_sem]; (try simp (disch := first | exact ds | fail) only [go_sem, Nat.reduceAdd, Nat.reduceMul, Nat.reduceSub, Int.reduceToNat, Int.reduceNeg, Nat.reduceLeDiff, hD]); (try simp only [SV.pl.injEq, SV.sl.injEq, Value.int.injEq, Bk.c.injEq, encI_inj, true_and]); (try omega)))
  have hsk := sumN_le ctOp xs k
  repeat' (first | apply W.seq | apply W.skip | refine W.region (id := 0) ?_ | refine W.region (id := 1) ?_ | refine W.region (id := 2) ?_ | refine W.region (id := 5) ?_ | refine W.region (id := 6) ?_ | refine W.region (id := 7) ?_ | refine W.region (id := 8) ?_ | refine W.region (id := 3) ?_ | refine W.region (id := 9) ?_ | apply W.block | apply N.code | apply N.blk | apply Sl.nil | apply W.exit | apply W.ret | apply E.hit | apply E.code | apply E.fin | refine zM ?_ | apply O.i | refine sP ?_ | refine sQ fun _ => ?_ | refine sX fun _ => ?_ | (refine k1 false [(1000000, 0, none)] c23 ?_; refine k2 markByteS_ok ?_) | refine zI ?_ ?_ | (intro hb; (try simp [-List.getD_eq_getElem?_getD] at hb); (try (exfalso; omega))))
  · have hst := sumN_step ctOp xs k hb
    have hsg := sumN_get ctOp xs k hb
    have hct : ctOp (xs.getD k default) = 1 + 1 + (xs.getD k default).Data.length := rfl
    have hto : totOp (xs.getD k default) = (xs.getD k default).Data.length := rfl
    have hak := hall k (by omega)
    (refine gU 1000000 k 2 2000002 ?_)
    repeat' (first | apply W.seq | apply W.skip | apply W.region | apply W.block | apply N.code | apply N.blk | apply Sl.nil | apply W.exit | apply W.ret | apply E.hit | apply E.code | apply E.fin | refine zM ?_ | apply O.i | refine sP ?_ | refine sQ fun _ => ?_ | refine sX fun _ => ?_ | (refine k1 false [(1000000, 0, none)] c23 ?_; refine k2 markByteS_ok ?_) | refine zI ?_ ?_ | (intro hb; (try simp [-List.getD_eq_getElem?_getD] at hb); (try (exfalso; omega))))
    (refine N.fin ⟨by omega, ?h4, ?w4⟩; case' w4 => (refine eF 1000000 k 2 ?_; refine Weak.to rfl ?s4 ?b4))
    (try case' s4 => first | exact to1 | (simp +decide only [go_sem]; (try simp (disch := first | exact ds | fail) only [go_sem, Nat.reduceAdd, Nat.reduceMul, Nat.reduceSub, Int.reduceToNat, Int.reduceNeg, Nat.reduceLeDiff, hD]); (try simp only [SV.pl.injEq, SV.sl.injEq, Value.int.injEq, Bk.c.injEq, encI_inj, true_and]); (try omega))); (try case' b4 => first | exact to1 | (simp +decide only [go_sem]; (try simp (disch := first | exact ds | fail) only [go_sem, Nat.reduceAdd, Nat.reduceMul, Nat.reduceSub, Int.reduceToNat, Int.reduceNeg, Nat.reduceLeDiff, hD]); (try simp only [SV.pl.injEq, SV.sl.injEq, Value.int.injEq, Bk.c.injEq, encI_inj, true_and]); (try omega))); (try case' h4 => first | exact to1 | (simp +decide only [go_sem]; (try simp (disch := first | exact ds | fail) only [go_sem, Nat.reduceAdd, Nat.reduceMul, Nat.reduceSub, Int.reduceToNat, Int.reduceNeg, Nat.reduceLeDiff, hD]); (try simp only [SV.pl.injEq, SV.sl.injEq, Value.int.injEq, Bk.c.injEq, encI_inj, true_and]); (try omega)))
    exact mk_nextL oOp mkOp ctOp b xs k (by omega)
  · obtain rfl : k = xs.length := by omega
    rw [take_drop_all _ _ (by simp)]
    exact rT

theorem heldOpS_ok {xs : List OpA} {b : Int} (h : totOpS xs < 2 ^ 40 := by exact pm) (hp : 0 ≤ b ∧ b + sumN ctOp xs < 2 ^ 62 := by exact pm) : TSpec Try.prog 25 [] [.pd (encL fOp (mkS mkOp ctOp b xs)), .pl (.int .i64 b)] false [] (.pl (.int .i64 (b + sumN ctOp xs))) := by
  have hall : ∀ k, k < xs.length → totOp (xs.getD k default) < 2 ^ 40 := fun k hk => by have := sumN_get totOp xs k hk; unfold totOpS at h; omega
  have hlen : totOpS xs = xs.length + sumN totOp xs := rfl
  have hD := And.intro @mkB.eq_1 (@mkOp.eq_1)
  refine sT 40 [.tmp 4] Try.func25 fun w0 S0 ρ0 φ0 => ?_
  repeat' (first | apply W.seq | apply W.skip | apply W.region | apply W.block | apply N.code | apply N.blk | apply Sl.nil | apply W.exit | apply W.ret | apply E.hit | apply E.code | apply E.fin | refine zM ?_ | apply O.i | refine sP ?_ | refine sQ fun _ => ?_ | (refine k1 false [] c28 ?_; refine k2 heldByteS_ok ?_) | refine zI ?_ ?_ | (intro hb; (try simp [-List.getD_eq_getElem?_getD] at hb); (try (exfalso; omega))))
  refine W.iter (fun k => ⟨40, [(0, .pd (encL fOp (mkS mkOp ctOp b xs))), (1, .pl (.int .i64 (b + sumN ctOp (xs.take k)))), (5, .pl (.int .i64 k))], []⟩) (fun k => True) (xs.length) (Weak.to rfl ?s5 ?b5) ?h5 (fun k hk hH => ?body5)
  (try case' s5 => first | exact to1 | (simp +decide only [go_sem]; (try simp (disch := first | exact ds | fail) only [go_sem, Nat.reduceAdd, Nat.reduceMul, Nat.reduceSub, Int.reduceToNat, Int.reduceNeg, Nat.reduceLeDiff, hD]); (try simp only [SV.pl.injEq, SV.sl.injEq, Value.int.injEq, Bk.c.injEq, encI_inj, true_and]); (try omega))); (try case' b5 => first | exact to1 | (simp +decide only [go_sem]; (try simp (disch := first | exact ds | fail) only [go_sem, Nat.reduceAdd, Nat.reduceMul, Nat.reduceSub, Int.reduceToNat, Int.reduceNeg, Nat.reduceLeDiff, hD]); (try simp only [SV.pl.injEq, SV.sl.injEq, Value.int.injEq, Bk.c.injEq, encI_inj, true_and]); (try omega))); (try case' h5 => first | exact to1 | (simp +decide only [go_sem]; (try simp (disch := first | exact ds | fail) only [go_sem, Nat.reduceAdd, Nat.reduceMul, Nat.reduceSub, Int.reduceToNat, Int.reduceNeg, Nat.reduceLeDiff, hD]); (try simp only [SV.pl.injEq, SV.sl.injEq, Value.int.injEq, Bk.c.injEq, encI_inj, true_and]); (try omega)))
  have hsk := sumN_le ctOp xs k
  repeat' (first | apply W.seq | apply W.skip | refine W.region (id := 0) ?_ | refine W.region (id := 1) ?_ | refine W.region (id := 2) ?_ | refine W.region (id := 5) ?_ | refine W.region (id := 6) ?_ | refine W.region (id := 7) ?_ | refine W.region (id := 8) ?_ | refine W.region (id := 9) ?_ | refine W.region (id := 10) ?_ | refine W.region (id := 11) ?_ | refine W.region (id := 12) ?_ | refine W.region (id := 3) ?_ | refine W.region (id := 13) ?_ | apply W.block | apply N.code | apply N.blk | apply Sl.nil | apply W.exit | apply W.ret | apply E.hit | apply E.code | apply E.fin | refine zM ?_ | apply O.i | refine sP ?_ | refine sQ fun _ => ?_ | (refine k1 false [] c28 ?_; refine k2 heldByteS_ok ?_) | refine zI ?_ ?_ | (intro hb; (try simp [-List.getD_eq_getElem?_getD] at hb); (try (exfalso; omega))))
  · have hst := sumN_step ctOp xs k hb
    have hsg := sumN_get ctOp xs k hb
    have hct : ctOp (xs.getD k default) = 1 + 1 + (xs.getD k default).Data.length := rfl
    have hto : totOp (xs.getD k default) = (xs.getD k default).Data.length := rfl
    have hak := hall k (by omega)
    repeat' (first | apply W.seq | apply W.skip | apply W.region | apply W.block | apply N.code | apply N.blk | apply Sl.nil | apply W.exit | apply W.ret | apply E.hit | apply E.code | apply E.fin | refine zM ?_ | apply O.i | refine sP ?_ | refine sQ fun _ => ?_ | (refine k1 false [] c28 ?_; refine k2 heldByteS_ok ?_) | refine zI ?_ ?_ | (intro hb; (try simp [-List.getD_eq_getElem?_getD] at hb); (try (exfalso; omega))))
    (refine N.fin ⟨by omega, ?h6, ?w6⟩; case' w6 => (refine Weak.to rfl ?s6 ?b6))
    (try case' s6 => first | exact to1 | (simp +decide only [go_sem]; (try simp (disch := first | exact ds | fail) only [go_sem, Nat.reduceAdd, Nat.reduceMul, Nat.reduceSub, Int.reduceToNat, Int.reduceNeg, Nat.reduceLeDiff, hD]); (try simp only [SV.pl.injEq, SV.sl.injEq, Value.int.injEq, Bk.c.injEq, encI_inj, true_and]); (try omega))); (try case' b6 => first | exact to1 | (simp +decide only [go_sem]; (try simp (disch := first | exact ds | fail) only [go_sem, Nat.reduceAdd, Nat.reduceMul, Nat.reduceSub, Int.reduceToNat, Int.reduceNeg, Nat.reduceLeDiff, hD]); (try simp only [SV.pl.injEq, SV.sl.injEq, Value.int.injEq, Bk.c.injEq, encI_inj, true_and]); (try omega))); (try case' h6 => first | exact to1 | (simp +decide only [go_sem]; (try simp (disch := first | exact ds | fail) only [go_sem, Nat.reduceAdd, Nat.reduceMul, Nat.reduceSub, Int.reduceToNat, Int.reduceNeg, Nat.reduceLeDiff, hD]); (try simp only [SV.pl.injEq, SV.sl.injEq, Value.int.injEq, Bk.c.injEq, encI_inj, true_and]); (try omega)))
  · obtain rfl : k = xs.length := by omega
    exact rT

end Go.Proofs.Ytcmnbefdbckhcaa

