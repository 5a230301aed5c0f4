import Derived.Test.YtnancifnodbkdaaA2
namespace Go.Proofs.Ytnancifnodbkdaa
open Go Go.Vcg Go.IntWalk
set_option maxRecDepth 100000
set_option maxHeartbeats 20000000
set_option linter.unusedSimpArgs false
set_option linter.unusedVariables false

theorem c38 : CallOk Try.prog 38 := ⟨_, Try.func38, rfl, by kernel_rfl⟩
theorem c40 : CallOk Try.prog 40 := ⟨_, Try.func40, rfl, by kernel_rfl⟩
theorem c36 : CallOk Try.prog 36 := ⟨_, Try.func36, rfl, by kernel_rfl⟩
theorem c41 : CallOk Try.prog 41 := ⟨_, Try.func41, rfl, by kernel_rfl⟩
theorem c45 : CallOk Try.prog 45 := ⟨_, Try.func45, rfl, by kernel_rfl⟩
theorem c47 : CallOk Try.prog 47 := ⟨_, Try.func47, rfl, by kernel_rfl⟩
theorem c43 : CallOk Try.prog 43 := ⟨_, Try.func43, rfl, by kernel_rfl⟩
theorem c48 : CallOk Try.prog 48 := ⟨_, Try.func48, rfl, by kernel_rfl⟩
structure OpA where
  Kind : Int
  At : Int
  Data : List Int
  deriving DecidableEq, Inhabited
def oOp (a : OpA) : List SV := [.pl (.int .i64 a.Kind), .pl (.int .i64 a.At), .ow 1 (encI .u8 a.Data)]
def fOp (a : OpA) : List SV := [.pl (.int .i64 a.Kind), .pl (.int .i64 a.At), .pd (encI .u8 a.Data)]
def totOp (a : OpA) : Nat := a.Data.length
def lnOp (a : OpA) : Prop := a.Data.length < 2 ^ 50
def ctOp (a : OpA) : Nat := 1 + 1 + a.Data.length
def mkOp (b : Int) (a : OpA) : OpA := ⟨b, b + 1, markL .u8 (b + 1 + 1) a.Data.length⟩
theorem oOp_clo (xs : List OpA) : cloRows (encL oOp xs) = true := encL_clo _ (fun x => by simp [oOp, SV.clo, SV.clo0, encI_clo, encI_shut, encI_frz, shutL, SV.shut, frzL, SV.frz, cloRow, oB_clo, oB_shut, oB_frz]) xs
theorem oOp_shut (xs : List OpA) : shutRows (encL oOp xs) = true := encL_shut _ (fun x => by simp [oOp, SV.clo, SV.clo0, encI_clo, encI_shut, encI_frz, shutL, SV.shut, frzL, SV.frz, cloRow, oB_clo, oB_shut, oB_frz]) xs
theorem oOp_frz (xs : List OpA) : frzRows (encL oOp xs) = encL fOp xs := encL_frz _ (fun x => by simp [oOp, fOp, SV.clo, SV.clo0, encI_clo, encI_shut, encI_frz, shutL, SV.shut, frzL, SV.frz, cloRow, oB_clo, oB_shut, oB_frz]) xs
theorem oOp_len (xs : List OpA) : RowsLen (encL oOp xs) 3 = True := encL_rowsLen oOp (fun x => by rfl) xs
attribute [go_sem] oOp fOp oOp_clo oOp_shut oOp_frz oOp_len
def totOpS (xs : List OpA) : Nat := xs.length + sumN totOp xs
def lnOpS (xs : List OpA) : Prop := xs.length < 2 ^ 50 ∧ ∀ k, k < xs.length → lnOp (xs.getD k default)
theorem toOp_ok {a : OpA} (h : totOp a < 2 ^ 40 := by exact pm) : TSpec Try.prog 38 [] [.ag (fOp a)] false [] (.ag (oOp a)) := by
  unfold totOp at h
  simp only [oOp, fOp]
  have hD := And.intro @mkB.eq_1 (And.intro @mkOp.eq_1 (@mkOp.eq_1))
  refine sT 15 [.cell 2 63] Try.func38 fun w0 S0 ρ0 φ0 => ?_
  repeat' (first | apply W.seq | apply W.skip | apply W.region | apply W.block | apply N.code | apply N.blk | apply Sl.nil | apply W.exit | apply W.ret | apply E.hit | apply E.code | apply E.fin | refine zM ?_ | apply O.i | refine sP ?_ | refine sQ fun _ => ?_ | refine sX fun _ => ?_ | (refine k1 false [] c16 ?_; refine k2 toByteS_ok ?_) | refine zI ?_ ?_ | (intro hb; (try simp [-List.getD_eq_getElem?_getD] at hb); (try (exfalso; omega))))
  exact rT

theorem eqOp_ok {a b : OpA} (h : totOp a < 2 ^ 40 := by exact pm) : TSpec Try.prog 40 [] [.ag (fOp a), .ag (fOp b)] false [] (.pl (.bool (decide (a = b)))) := by
  unfold totOp at h
  simp only [fOp]
  have hD := And.intro @mkB.eq_1 (And.intro @mkOp.eq_1 (@mkOp.eq_1))
  refine sT 21 [.tmp 4] Try.func40 fun w0 S0 ρ0 φ0 => ?_
  repeat' (first | apply W.seq | apply W.skip | apply W.region | apply W.block | apply N.code | apply N.blk | apply Sl.nil | apply W.exit | apply W.ret | apply E.hit | apply E.code | apply E.fin | refine zM ?_ | apply O.i | refine sP ?_ | refine sQ fun _ => ?_ | refine sX fun _ => ?_ | (refine k1 false [] c18 ?_; refine k2 eqByteS_ok ?_) | refine zI ?_ ?_ | (intro hb; (try simp [-List.getD_eq_getElem?_getD] at hb); (try (exfalso; omega))))
  all_goals (first | rw [show decide (a = b) = false from decide_eq_false fun e => hb (by rw [e])] | rw [show decide (a = b) = true from decide_eq_true (by cases a; cases b; simp_all)])
  all_goals exact rT

theorem szOp_ok {a : OpA} {left : Int} (h : lnOp a := by exact pm) (hp : 0 ≤ left ∧ left < 2 ^ 62 := by exact pm) : TSpec Try.prog 36 [] [.ag (fOp a), .pl (.int .i64 left)] false [] (.pl (.int .i64 (if left < totOp a then -1 else left - totOp a))) := by
  have htot : totOp a = a.Data.length := rfl
  rw [htot]
  unfold lnOp at h
  simp only [fOp]
  have hD := And.intro @mkB.eq_1 (And.intro @mkOp.eq_1 (@mkOp.eq_1))
  refine sT 12 [.tmp 4] Try.func36 fun w0 S0 ρ0 φ0 => ?_
  repeat' (first | apply W.seq | apply W.skip | apply W.region | apply W.block | apply N.code | apply N.blk | apply Sl.nil | apply W.exit | apply W.ret | apply E.hit | apply E.code | apply E.fin | refine zM ?_ | apply O.i | refine sP ?_ | refine sQ fun _ => ?_ | refine sX fun _ => ?_ | (refine k1 false [] c110 ?_; refine k2 szByteS_ok ?_) | refine zI ?_ ?_ | (intro hb; (try simp [-List.getD_eq_getElem?_getD] at hb); (try (exfalso; omega))))
  all_goals first | (rw [if_pos (by omega)]; exact rT) | (rw [if_neg (by omega)]; exact rT)

theorem markOp_ok {a : OpA} {b : Int} (h : totOp a < 2 ^ 40 := by exact pm) (hp : 0 ≤ b ∧ b + ctOp a < 2 ^ 62 := by exact pm) : TSpec Try.prog 41 [(1000000, .c 1 (encI .u8 a.Data))] [.ag ([.pl (.int .i64 a.Kind), .pl (.int .i64 a.At), .sl 1000000 0 a.Data.length]), .pl (.int .i64 b)] false [(1000000, .c 1 (encI .u8 (markL .u8 (b) a.Data.length)))] (.pl (.int .i64 (b + a.Data.length))) := by
  have hct : ctOp a = 1 + 1 + a.Data.length := rfl
  have htot : totOp a = a.Data.length := rfl
  have hD := And.intro @mkB.eq_1 (And.intro @mkOp.eq_1 (@mkOp.eq_1))
  refine sT 10 [.tmp 4] Try.func41 fun w0 S0 ρ0 φ0 => ?_
  repeat' (first | apply W.seq | apply W.skip | apply W.region | apply W.block | apply N.code | apply N.blk | apply Sl.nil | apply W.exit | apply W.ret | apply E.hit | apply E.code | apply E.fin | refine zM ?_ | apply O.i | refine sP ?_ | refine sQ fun _ => ?_ | refine sX fun _ => ?_ | (refine k1 false [(1000000, 0, none)] c19 ?_; refine k2 markByteS_ok ?_) | refine zI ?_ ?_ | (intro hb; (try simp [-List.getD_eq_getElem?_getD] at hb); (try (exfalso; omega))))
  exact rT

theorem toOpS_ok {xs : List OpA} (h : totOpS xs < 2 ^ 40 := by exact pm) : TSpec Try.prog 45 [] [.pd (encL fOp xs)] false [] (.ow 3 (encL oOp xs)) := by
  have hall : ∀ k, k < xs.length → totOp (xs.getD k default) < 2 ^ 40 := fun k hk => by have := sumN_get totOp xs k hk; unfold totOpS at h; omega
  have hlen : totOpS xs = xs.length + sumN totOp xs := rfl
  have hD := And.intro @mkB.eq_1 (And.intro @mkOp.eq_1 (@mkOp.eq_1))
  refine sT 23 [.tmp 2] Try.func45 fun w0 S0 ρ0 φ0 => ?_
  repeat' (first | apply W.seq | apply W.skip | apply W.region | apply W.block | apply N.code | apply N.blk | apply Sl.nil | apply W.exit | apply W.ret | apply E.hit | apply E.code | apply E.fin | refine zM ?_ | apply O.i | refine sP ?_ | refine sQ fun _ => ?_ | refine sX fun _ => ?_ | (refine k1 false [] c38 ?_; refine k2 toOp_ok ?_) | refine zI ?_ ?_ | (intro hb; (try simp [-List.getD_eq_getElem?_getD] at hb); (try (exfalso; omega))))
  refine W.iter (fun k => ⟨23, [(0, .pd (encL fOp xs)), (3, .sl 7 0 xs.length), (4, .pl (.int .i64 k))], [(7, .c 3 (encL oOp (xs.take k) ++ List.replicate (xs.length - k) [.pl (.int .i64 0), .pl (.int .i64 0), .nl]))], []⟩) (fun k => True) (xs.length) (Weak.to (by first | rfl | (simp only [virtAt_n]; rfl)) ?s1 ?b1 (by exact dfe)) ?h1 (fun k hk hH => ?body1)
  (try case' s1 => first | exact to1 | (simp +decide only [go_sem]; (try simp (disch := first | exact ds | fail) only [go_sem, Nat.reduceAdd, Nat.reduceMul, Nat.reduceSub, Int.reduceToNat, Int.reduceNeg, Nat.reduceLeDiff, hD]); (try simp only [SV.pl.injEq, SV.sl.injEq, Value.int.injEq, Bk.c.injEq, encI_inj, true_and]); (try omega))); (try case' b1 => first | exact to1 | (simp +decide only [go_sem]; (try simp (disch := first | exact ds | fail) only [go_sem, Nat.reduceAdd, Nat.reduceMul, Nat.reduceSub, Int.reduceToNat, Int.reduceNeg, Nat.reduceLeDiff, hD]); (try simp only [SV.pl.injEq, SV.sl.injEq, Value.int.injEq, Bk.c.injEq, encI_inj, true_and]); (try omega))); (try case' h1 => first | exact to1 | (simp +decide only [go_sem]; (try simp (disch := first | exact ds | fail) only [go_sem, Nat.reduceAdd, Nat.reduceMul, Nat.reduceSub, Int.reduceToNat, Int.reduceNeg, Nat.reduceLeDiff, hD]); (try simp only [SV.pl.injEq, SV.sl.injEq, Value.int.injEq, Bk.c.injEq, encI_inj, true_and]); (try omega)))
  repeat' (first | apply W.seq | apply W.skip | apply W.region | apply W.block | apply N.code | apply N.blk | apply Sl.nil | apply W.exit | apply W.ret | apply E.hit | apply E.code | apply E.fin | refine zM ?_ | apply O.i | refine sP ?_ | refine sQ fun _ => ?_ | refine sX fun _ => ?_ | (refine k1 false [] c38 ?_; refine k2 toOp_ok ?_) | refine zI ?_ ?_ | (intro hb; (try simp [-List.getD_eq_getElem?_getD] at hb); (try (exfalso; omega))))
  · (refine N.fin ⟨by omega, ?h2, ?w2⟩; case' w2 => (refine eF 7 k 2 ?_; refine Weak.to (by first | rfl | (simp only [virtAt_n]; rfl)) ?s2 ?b2 (by exact dfe)))
    (try case' s2 => first | exact to1 | (simp +decide only [go_sem]; (try simp (disch := first | exact ds | fail) only [go_sem, Nat.reduceAdd, Nat.reduceMul, Nat.reduceSub, Int.reduceToNat, Int.reduceNeg, Nat.reduceLeDiff, hD]); (try simp only [SV.pl.injEq, SV.sl.injEq, Value.int.injEq, Bk.c.injEq, encI_inj, true_and]); (try omega))); (try case' b2 => first | exact to1 | (simp +decide only [go_sem]; (try simp (disch := first | exact ds | fail) only [go_sem, Nat.reduceAdd, Nat.reduceMul, Nat.reduceSub, Int.reduceToNat, Int.reduceNeg, Nat.reduceLeDiff, hD]); (try simp only [SV.pl.injEq, SV.sl.injEq, Value.int.injEq, Bk.c.injEq, encI_inj, true_and]); (try omega))); (try case' h2 => first | exact to1 | (simp +decide only [go_sem]; (try simp (disch := first | exact ds | fail) only [go_sem, Nat.reduceAdd, Nat.reduceMul, Nat.reduceSub, Int.reduceToNat, Int.reduceNeg, Nat.reduceLeDiff, hD]); (try simp only [SV.pl.injEq, SV.sl.injEq, Value.int.injEq, Bk.c.injEq, encI_inj, true_and]); (try omega)))
    exact to_stepL oOp [.pl (.int .i64 0), .pl (.int .i64 0), .nl] xs k (by omega)
  · obtain rfl : k = xs.length := by omega
    rw [to_allL]
    exact rT

theorem eqOpS_ok {xs ys : List OpA} (h : totOpS xs < 2 ^ 40 := by exact pm) : TSpec Try.prog 47 [] [.pd (encL fOp xs), .pd (encL fOp ys)] false [] (.pl (.bool (decide (xs = ys)))) := by
  have hall : ∀ k, k < xs.length → totOp (xs.getD k default) < 2 ^ 40 := fun k hk => by have := sumN_get totOp xs k hk; unfold totOpS at h; omega
  have hlen : totOpS xs = xs.length + sumN totOp xs := rfl
  have hD := And.intro @mkB.eq_1 (And.intro @mkOp.eq_1 (@mkOp.eq_1))
  refine sT 27 [.tmp 4] Try.func47 fun w0 S0 ρ0 φ0 => ?_
  repeat' (first | apply W.seq | apply W.skip | apply W.region | apply W.block | apply N.code | apply N.blk | apply Sl.nil | apply W.exit | apply W.ret | apply E.hit | apply E.code | apply E.fin | refine zM ?_ | apply O.i | refine sP ?_ | refine sQ fun _ => ?_ | (refine rD (id := 6) anyW [] ?_; refine rP 0 false fun _ => ?_; refine rP 1 false fun _ => ?_; refine rP 2 false fun _ => ?_; refine rP 3 true fun _ => ?_; refine rP 4 false fun _ => ?_; refine rP 5 false fun _ => ?_; refine rP 6 false fun _ => ?_; refine rP 7 true fun _ => ?_; refine rO 8 fun _ _ _ _ _ => ?_; refine k1 false [] c40 ?_; refine k2 eqOp_ok ?_; refine rP 9 false fun _ => ?_; refine rE ?_) | refine zI ?_ ?_ | (intro hb; (try simp [-List.getD_eq_getElem?_getD] at hb); (try (exfalso; omega))))
  · have hne : decide (xs = ys) = false := decide_eq_false fun e => hb (by rw [e])
    rw [hne]
    exact rT
  · refine W.iter (fun k => ⟨27, [(0, .pd (encL fOp xs)), (1, .pd (encL fOp ys)), (5, .pl (.int .i64 k))], [], []⟩) (fun k => xs.take k = ys.take k) (xs.length) (Weak.to (by first | rfl | (simp only [virtAt_n]; rfl)) ?s3 ?b3 (by exact dfe)) ?h3 (fun k hk hH => ?body3)
    (try case' s3 => first | exact to1 | (simp +decide only [go_sem]; (try simp (disch := first | exact ds | fail) only [go_sem, Nat.reduceAdd, Nat.reduceMul, Nat.reduceSub, Int.reduceToNat, Int.reduceNeg, Nat.reduceLeDiff, hD]); (try simp only [SV.pl.injEq, SV.sl.injEq, Value.int.injEq, Bk.c.injEq, encI_inj, true_and]); (try omega))); (try case' b3 => first | exact to1 | (simp +decide only [go_sem]; (try simp (disch := first | exact ds | fail) only [go_sem, Nat.reduceAdd, Nat.reduceMul, Nat.reduceSub, Int.reduceToNat, Int.reduceNeg, Nat.reduceLeDiff, hD]); (try simp only [SV.pl.injEq, SV.sl.injEq, Value.int.injEq, Bk.c.injEq, encI_inj, true_and]); (try omega))); (try case' h3 => first | exact to1 | (simp +decide only [go_sem]; (try simp (disch := first | exact ds | fail) only [go_sem, Nat.reduceAdd, Nat.reduceMul, Nat.reduceSub, Int.reduceToNat, Int.reduceNeg, Nat.reduceLeDiff, hD]); (try simp only [SV.pl.injEq, SV.sl.injEq, Value.int.injEq, Bk.c.injEq, encI_inj, true_and]); (try omega)))
    repeat' (first | apply W.seq | apply W.skip | apply W.region | apply W.block | apply N.code | apply N.blk | apply Sl.nil | apply W.exit | apply W.ret | apply E.hit | apply E.code | apply E.fin | refine zM ?_ | apply O.i | refine sP ?_ | refine sQ fun _ => ?_ | (refine rD (id := 6) anyW [] ?_; refine rP 0 false fun _ => ?_; refine rP 1 false fun _ => ?_; refine rP 2 false fun _ => ?_; refine rP 3 true fun _ => ?_; refine rP 4 false fun _ => ?_; refine rP 5 false fun _ => ?_; refine rP 6 false fun _ => ?_; refine rP 7 true fun _ => ?_; refine rO 8 fun _ _ _ _ _ => ?_; refine k1 false [] c40 ?_; refine k2 eqOp_ok ?_; refine rP 9 false fun _ => ?_; refine rE ?_) | refine zI ?_ ?_ | (intro hb; (try simp [-List.getD_eq_getElem?_getD] at hb); (try (exfalso; omega))))
    · rw [decide_ne_of_take default k hb]
      exact rT
    · (refine N.fin ⟨by omega, ?h4, ?w4⟩; case' w4 => (refine Weak.to (by first | rfl | (simp only [virtAt_n]; rfl)) ?s4 ?b4 (by exact dfe)))
      (try case' s4 => first | exact to1 | (simp +decide only [go_sem]; (try simp (disch := first | exact ds | fail) only [go_sem, Nat.reduceAdd, Nat.reduceMul, Nat.reduceSub, Int.reduceToNat, Int.reduceNeg, Nat.reduceLeDiff, hD]); (try simp only [SV.pl.injEq, SV.sl.injEq, Value.int.injEq, Bk.c.injEq, encI_inj, true_and]); (try omega))); (try case' b4 => first | exact to1 | (simp +decide only [go_sem]; (try simp (disch := first | exact ds | fail) only [go_sem, Nat.reduceAdd, Nat.reduceMul, Nat.reduceSub, Int.reduceToNat, Int.reduceNeg, Nat.reduceLeDiff, hD]); (try simp only [SV.pl.injEq, SV.sl.injEq, Value.int.injEq, Bk.c.injEq, encI_inj, true_and]); (try omega))); (try case' h4 => first | exact to1 | (simp +decide only [go_sem]; (try simp (disch := first | exact ds | fail) only [go_sem, Nat.reduceAdd, Nat.reduceMul, Nat.reduceSub, Int.reduceToNat, Int.reduceNeg, Nat.reduceLeDiff, hD]); (try simp only [SV.pl.injEq, SV.sl.injEq, Value.int.injEq, Bk.c.injEq, encI_inj, true_and]); (try omega)))
      exact take_eq_step default xs ys k (by omega) (by omega) hH hb
    · rw [decide_eq_true (take_all_eq hH (by omega) (by omega))]
      exact rT

theorem szOpS_ok {xs : List OpA} {left : Int} (h : lnOpS xs := by exact pm) (hp : 0 ≤ left ∧ left < 2 ^ 62 := by exact pm) : TSpec Try.prog 43 [] [.pd (encL fOp xs), .pl (.int .i64 left)] false [] (.pl (.int .i64 (if left < totOpS xs then -1 else left - totOpS xs))) := by
  have hall := h.2
  have hl := h.1
  have hlen : totOpS xs = xs.length + sumN totOp xs := rfl
  have hD := And.intro @mkB.eq_1 (And.intro @mkOp.eq_1 (@mkOp.eq_1))
  refine sT 27 [.tmp 4] Try.func43 fun w0 S0 ρ0 φ0 => ?_
  repeat' (first | apply W.seq | apply W.skip | apply W.region | apply W.block | apply N.code | apply N.blk | apply Sl.nil | apply W.exit | apply W.ret | apply E.hit | apply E.code | apply E.fin | refine zM ?_ | apply O.i | refine sP ?_ | refine sQ fun _ => ?_ | (refine k1 false [] c36 ?_; refine k2 (szOp_ok (hall k (by omega)) (by omega)) ?_) | refine zI ?_ ?_ | (intro hb; (try simp [-List.getD_eq_getElem?_getD] at hb); (try (exfalso; omega))))
  · rw [if_pos (by omega)]
    exact rT
  · refine W.iter (fun k => ⟨27, [(0, .pd (encL fOp xs)), (1, .pl (.int .i64 (left - xs.length - sumN totOp (xs.take k)))), (5, .pl (.int .i64 k))], [], []⟩) (fun k => (sumN totOp (xs.take k) : Int) ≤ left - xs.length) (xs.length) (Weak.to (by first | rfl | (simp only [virtAt_n]; rfl)) ?s5 ?b5 (by exact dfe)) ?h5 (fun k hk hH => ?body5)
    (try case' s5 => first | exact to1 | (simp +decide only [go_sem]; (try simp (disch := first | exact ds | fail) only [go_sem, Nat.reduceAdd, Nat.reduceMul, Nat.reduceSub, Int.reduceToNat, Int.reduceNeg, Nat.reduceLeDiff, hD]); (try simp only [SV.pl.injEq, SV.sl.injEq, Value.int.injEq, Bk.c.injEq, encI_inj, true_and]); (try omega))); (try case' b5 => first | exact to1 | (simp +decide only [go_sem]; (try simp (disch := first | exact ds | fail) only [go_sem, Nat.reduceAdd, Nat.reduceMul, Nat.reduceSub, Int.reduceToNat, Int.reduceNeg, Nat.reduceLeDiff, hD]); (try simp only [SV.pl.injEq, SV.sl.injEq, Value.int.injEq, Bk.c.injEq, encI_inj, true_and]); (try omega))); (try case' h5 => first | exact to1 | (simp +decide only [go_sem]; (try simp (disch := first | exact ds | fail) only [go_sem, Nat.reduceAdd, Nat.reduceMul, Nat.reduceSub, Int.reduceToNat, Int.reduceNeg, Nat.reduceLeDiff, hD]); (try simp only [SV.pl.injEq, SV.sl.injEq, Value.int.injEq, Bk.c.injEq, encI_inj, true_and]); (try omega)))
    have hsk := sumN_le totOp xs k
    repeat' (first | apply W.seq | apply W.skip | refine W.region (id := 0) ?_ | refine W.region (id := 1) ?_ | refine W.region (id := 2) ?_ | refine W.region (id := 3) ?_ | refine W.region (id := 4) ?_ | refine W.region (id := 5) ?_ | refine W.region (id := 8) ?_ | refine W.region (id := 9) ?_ | refine W.region (id := 6) ?_ | refine W.region (id := 10) ?_ | apply W.block | apply N.code | apply N.blk | apply Sl.nil | apply W.exit | apply W.ret | apply E.hit | apply E.code | apply E.fin | refine zM ?_ | apply O.i | refine sP ?_ | refine sQ fun _ => ?_ | (refine k1 false [] c36 ?_; refine k2 (szOp_ok (hall k (by omega)) (by omega)) ?_) | refine zI ?_ ?_ | (intro hb; (try simp [-List.getD_eq_getElem?_getD] at hb); (try (exfalso; omega))))
    · have hst := sumN_step totOp xs k hb
      have hsg := sumN_get totOp xs k hb
      repeat' (first | apply W.seq | apply W.skip | apply W.region | apply W.block | apply N.code | apply N.blk | apply Sl.nil | apply W.exit | apply W.ret | apply E.hit | apply E.code | apply E.fin | refine zM ?_ | apply O.i | refine sP ?_ | refine sQ fun _ => ?_ | (refine k1 false [] c36 ?_; refine k2 (szOp_ok (hall k (by omega)) (by omega)) ?_) | refine zI ?_ ?_ | (intro hb; (try simp [-List.getD_eq_getElem?_getD] at hb); (try (exfalso; omega))))
      · rw [if_pos (by omega)]
        exact rT
      · (refine N.fin ⟨by omega, ?h6, ?w6⟩; case' w6 => (refine Weak.to (by first | rfl | (simp only [virtAt_n]; rfl)) ?s6 ?b6 (by exact dfe)))
        (try case' s6 => first | exact to1 | (simp +decide only [go_sem]; (try simp (disch := first | exact ds | fail) only [go_sem, Nat.reduceAdd, Nat.reduceMul, Nat.reduceSub, Int.reduceToNat, Int.reduceNeg, Nat.reduceLeDiff, hD]); (try simp only [SV.pl.injEq, SV.sl.injEq, Value.int.injEq, Bk.c.injEq, encI_inj, true_and]); (try omega))); (try case' b6 => first | exact to1 | (simp +decide only [go_sem]; (try simp (disch := first | exact ds | fail) only [go_sem, Nat.reduceAdd, Nat.reduceMul, Nat.reduceSub, Int.reduceToNat, Int.reduceNeg, Nat.reduceLeDiff, hD]); (try simp only [SV.pl.injEq, SV.sl.injEq, Value.int.injEq, Bk.c.injEq, encI_inj, true_and]); (try omega))); (try case' h6 => first | exact to1 | (simp +decide only [go_sem]; (try simp (disch := first | exact ds | fail) only [go_sem, Nat.reduceAdd, Nat.reduceMul, Nat.reduceSub, Int.reduceToNat, Int.reduceNeg, Nat.reduceLeDiff, hD]); (try simp only [SV.pl.injEq, SV.sl.injEq, Value.int.injEq, Bk.c.injEq, encI_inj, true_and]); (try omega)))
    · obtain rfl : k = xs.length := by omega
      rw [List.take_length] at hH
      rw [if_neg (by omega)]
      exact rT

theorem markOpS_ok {xs : List OpA} {b : Int} (h : totOpS xs < 2 ^ 40 := by exact pm) (hp : 0 ≤ b ∧ b + sumN ctOp xs < 2 ^ 62 := by exact pm) : TSpec Try.prog 48 [(1000000, .c 3 (encL oOp xs))] [.sl 1000000 0 xs.length, .pl (.int .i64 b)] false [(1000000, .c 3 (encL oOp (mkS mkOp ctOp b xs)))] (.pl (.int .i64 (b + sumN ctOp xs))) := by
  have hall : ∀ k, k < xs.length → totOp (xs.getD k default) < 2 ^ 40 := fun k hk => by have := sumN_get totOp xs k hk; unfold totOpS at h; omega
  have hlen : totOpS xs = xs.length + sumN totOp xs := rfl
  have hD := And.intro @mkB.eq_1 (And.intro @mkOp.eq_1 (@mkOp.eq_1))
  refine sT 34 [.tmp 4] Try.func48 fun w0 S0 ρ0 φ0 => ?_
  repeat' (first | apply W.seq | apply W.skip | apply W.region | apply W.block | apply N.code | apply N.blk | apply Sl.nil | apply W.exit | apply W.ret | apply E.hit | apply E.code | apply E.fin | refine zM ?_ | apply O.i | refine sP ?_ | refine sQ fun _ => ?_ | refine sX fun _ => ?_ | (refine k1 false [(1000000, 0, none)] c19 ?_; refine k2 markByteS_ok ?_) | refine zI ?_ ?_ | (intro hb; (try simp [-List.getD_eq_getElem?_getD] at hb); (try (exfalso; omega))))
  refine W.iter (fun k => ⟨34, [(0, .sl 1000000 0 xs.length), (1, .pl (.int .i64 (b + sumN ctOp (xs.take k)))), (5, .pl (.int .i64 k))], [(1000000, .c 3 (encL oOp ((mkS mkOp ctOp b xs).take k ++ xs.drop k)))], []⟩) (fun k => True) (xs.length) (Weak.to (by first | rfl | (simp only [virtAt_n]; rfl)) ?s7 ?b7 (by exact dfe)) ?h7 (fun k hk hH => ?body7)
  (try case' s7 => first | exact to1 | (simp +decide only [go_sem]; (try simp (disch := first | exact ds | fail) only [go_sem, Nat.reduceAdd, Nat.reduceMul, Nat.reduceSub, Int.reduceToNat, Int.reduceNeg, Nat.reduceLeDiff, hD]); (try simp only [SV.pl.injEq, SV.sl.injEq, Value.int.injEq, Bk.c.injEq, encI_inj, true_and]); (try omega))); (try case' b7 => first | exact to1 | (simp +decide only [go_sem]; (try simp (disch := first | exact ds | fail) only [go_sem, Nat.reduceAdd, Nat.reduceMul, Nat.reduceSub, Int.reduceToNat, Int.reduceNeg, Nat.reduceLeDiff, hD]); (try simp only [SV.pl.injEq, SV.sl.injEq, Value.int.injEq, Bk.c.injEq, encI_inj, true_and]); (try omega))); (try case' h7 => first | exact to1 | (simp +decide only [go_sem]; (try simp (disch := first | exact ds | fail) only [go_sem, Nat.reduceAdd, Nat.reduceMul, Nat.reduceSub, Int.reduceToNat, Int.reduceNeg, Nat.reduceLeDiff, hD]); (try simp only [SV.pl.injEq, SV.sl.injEq, Value.int.injEq, Bk.c.injEq, encI_inj, true_and]); (try omega)))
  have hsk := sumN_le ctOp xs k
  repeat' (first | apply W.seq | apply W.skip | refine W.region (id := 0) ?_ | refine W.region (id := 1) ?_ | refine W.region (id := 2) ?_ | refine W.region (id := 5) ?_ | refine W.region (id := 6) ?_ | refine W.region (id := 7) ?_ | refine W.region (id := 8) ?_ | refine W.region (id := 3) ?_ | refine W.region (id := 9) ?_ | apply W.block | apply N.code | apply N.blk | apply Sl.nil | apply W.exit | apply W.ret | apply E.hit | apply E.code | apply E.fin | refine zM ?_ | apply O.i | refine sP ?_ | refine sQ fun _ => ?_ | refine sX fun _ => ?_ | (refine k1 false [(1000000, 0, none)] c19 ?_; refine k2 markByteS_ok ?_) | refine zI ?_ ?_ | (intro hb; (try simp [-List.getD_eq_getElem?_getD] at hb); (try (exfalso; omega))))
  · have hst := sumN_step ctOp xs k hb
    have hsg := sumN_get ctOp xs k hb
    have hct : ctOp (xs.getD k default) = 1 + 1 + (xs.getD k default).Data.length := rfl
    have hto : totOp (xs.getD k default) = (xs.getD k default).Data.length := rfl
    have hak := hall k (by omega)
    (refine gU 1000000 k 2 2000002 ?_)
    repeat' (first | apply W.seq | apply W.skip | apply W.region | apply W.block | apply N.code | apply N.blk | apply Sl.nil | apply W.exit | apply W.ret | apply E.hit | apply E.code | apply E.fin | refine zM ?_ | apply O.i | refine sP ?_ | refine sQ fun _ => ?_ | refine sX fun _ => ?_ | (refine k1 false [(1000000, 0, none)] c19 ?_; refine k2 markByteS_ok ?_) | refine zI ?_ ?_ | (intro hb; (try simp [-List.getD_eq_getElem?_getD] at hb); (try (exfalso; omega))))
    (refine N.fin ⟨by omega, ?h8, ?w8⟩; case' w8 => (refine eF 1000000 k 2 ?_; refine Weak.to (by first | rfl | (simp only [virtAt_n]; rfl)) ?s8 ?b8 (by exact dfe)))
    (try case' s8 => first | exact to1 | (simp +decide only [go_sem]; (try simp (disch := first | exact ds | fail) only [go_sem, Nat.reduceAdd, Nat.reduceMul, Nat.reduceSub, Int.reduceToNat, Int.reduceNeg, Nat.reduceLeDiff, hD]); (try simp only [SV.pl.injEq, SV.sl.injEq, Value.int.injEq, Bk.c.injEq, encI_inj, true_and]); (try omega))); (try case' b8 => first | exact to1 | (simp +decide only [go_sem]; (try simp (disch := first | exact ds | fail) only [go_sem, Nat.reduceAdd, Nat.reduceMul, Nat.reduceSub, Int.reduceToNat, Int.reduceNeg, Nat.reduceLeDiff, hD]); (try simp only [SV.pl.injEq, SV.sl.injEq, Value.int.injEq, Bk.c.injEq, encI_inj, true_and]); (try omega))); (try case' h8 => first | exact to1 | (simp +decide only [go_sem]; (try simp (disch := first | exact ds | fail) only [go_sem, Nat.reduceAdd, Nat.reduceMul, Nat.reduceSub, Int.reduceToNat, Int.reduceNeg, Nat.reduceLeDiff, hD]); (try simp only [SV.pl.injEq, SV.sl.injEq, Value.int.injEq, Bk.c.injEq, encI_inj, true_and]); (try omega)))
    exact mk_nextL oOp mkOp ctOp b xs k (by omega)
  · obtain rfl : k = xs.length := by omega
    rw [take_drop_all _ _ (by simp)]
    exact rT

end Go.Proofs.Ytnancifnodbkdaa

