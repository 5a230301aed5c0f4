import Derived.Test.YtnancifnodbkdaaB13
import Derived.Test.YtnancifnodbkdaaB16
namespace Go.Proofs.Ytnancifnodbkdaa
open Go Go.Vcg Go.IntWalk
set_option maxRecDepth 100000
set_option maxHeartbeats 20000000
set_option linter.unusedSimpArgs false
set_option linter.unusedVariables false

theorem c107 : CallOk Try.prog 107 := ⟨_, Try.func107, rfl, by kernel_rfl⟩
theorem c108 : CallOk Try.prog 108 := ⟨_, Try.func108, rfl, by kernel_rfl⟩
theorem c109 : CallOk Try.prog 109 := ⟨_, Try.func109, rfl, by kernel_rfl⟩
theorem c33 : CallOk Try.prog 33 := ⟨_, Try.func33, rfl, by kernel_rfl⟩
theorem c34 : CallOk Try.prog 34 := ⟨_, Try.func34, rfl, by kernel_rfl⟩
theorem c35 : CallOk Try.prog 35 := ⟨_, Try.func35, rfl, by kernel_rfl⟩
theorem killRows_set (d : Nat) (rows : List (List SV)) (k : Nat) (r : List SV) : killRows d (rows.set k r) = (killRows d rows).set k (r.map (SV.kill1 d)) := by
  unfold killRows
  rw [List.map_set]
theorem rowsSet_getD (rows : List (List SV)) (k : Nat) (r : List SV) (h : k < rows.length) : (rows.set k r).getD k [] = r := setGet rows k r [] h
theorem rowsSet_set (rows : List (List SV)) (k : Nat) (r r' : List SV) : (rows.set k r).set k r' = rows.set k r' := setSet rows k r r'
theorem rowsSet_length (rows : List (List SV)) (k : Nat) (r : List SV) : (rows.set k r).length = rows.length := List.length_set ..
theorem eA_exL (B : Nat → Option Bk) (k : IntKind) (r r' : List SV) : ∀ xs : List Int, exL B (encA k xs ++ r) (encA k xs ++ r') = exL B r r'
  | [] => rfl
  | x :: xs => by
    show (match exC B (.pl (.int k x)) (.pl (.int k x)), exL B (encA k xs ++ r) (encA k xs ++ r') with
      | some (p, ns), some (q, ms) => some (p ∧ q, ns ++ ms)
      | _, _ => none) = _
    rw [eA_exL B k r r' xs]
    have : exC B (.pl (.int k x)) (.pl (.int k x)) = some (SV.clo (.pl (.int k x)) = true ∧ SV.pl (.int k x) = SV.pl (.int k x), []) := rfl
    rw [this]
    cases exL B r r' with
    | none => rfl
    | some q =>
      obtain ⟨p, ns⟩ := q
      simp [SV.clo, SV.clo0]
attribute [go_sem] eA_exL
attribute [go_sem] killRows_set rowsSet_getD rowsSet_set rowsSet_length
def totTxS (xs : List TxA) : Nat := xs.length + sumN totTx xs
def lnTxS (xs : List TxA) : Prop := xs.length < 2 ^ 50 ∧ ∀ k, k < xs.length → lnTx (xs.getD k default)
theorem eqTxS_ok {xs ys : List TxA} (h : totTxS xs < 2 ^ 40 := by exact pm) : TSpec Try.prog 107 [] [.pd (encL fTx xs), .pd (encL fTx ys)] false [] (.pl (.bool (decide (xs = ys)))) := by
  have hall : ∀ k, k < xs.length → totTx (xs.getD k default) < 2 ^ 40 := fun k hk => by have := sumN_get totTx xs k hk; unfold totTxS at h; omega
  have hlen : totTxS xs = xs.length + sumN totTx xs := rfl
  have hD := And.intro @mkPoint.eq_1 (@mkTx.eq_1)
  refine sT 27 [.tmp 4] Try.func107 fun w0 S0 ρ0 φ0 => ?_
  repeat' (first | apply W.seq | apply W.skip | apply W.region | apply W.block | apply N.code | apply N.blk | apply Sl.nil | apply W.exit | apply W.ret | apply E.hit | apply E.code | apply E.fin | refine zM ?_ | apply O.i | refine sP ?_ | refine sQ fun _ => ?_ | (refine rD (id := 6) anyW [] ?_; refine rP 0 false fun _ => ?_; refine rP 1 false fun _ => ?_; refine rP 2 false fun _ => ?_; refine rP 3 true fun _ => ?_; refine rP 4 false fun _ => ?_; refine rP 5 false fun _ => ?_; refine rP 6 false fun _ => ?_; refine rP 7 true fun _ => ?_; refine rO 8 fun _ _ _ _ _ => ?_; refine k1 false [] c156 ?_; refine k2 eqTx_ok ?_; refine rP 9 false fun _ => ?_; refine rE ?_) | refine zI ?_ ?_ | (intro hb; (try simp [-List.getD_eq_getElem?_getD] at hb); (try (exfalso; omega))))
  · have hne : decide (xs = ys) = false := decide_eq_false fun e => hb (by rw [e])
    rw [hne]
    exact rT
  · refine W.iter (fun k => ⟨27, [(0, .pd (encL fTx xs)), (1, .pd (encL fTx ys)), (5, .pl (.int .i64 k))], [], []⟩) (fun k => xs.take k = ys.take k) (xs.length) (Weak.to (by first | rfl | (simp only [virtAt_n]; rfl)) ?s1 ?b1 (by exact dfe)) ?h1 (fun k hk hH => ?body1)
    (try case' s1 => first | exact to1 | (simp +decide only [go_sem]; (try simp (disch := first | exact ds | fail) only [go_sem, Nat.reduceAdd, Nat.reduceMul, Nat.reduceSub, Int.reduceToNat, Int.reduceNeg, Nat.reduceLeDiff, hD]); (try simp only [SV.pl.injEq, SV.sl.injEq, Value.int.injEq, Bk.c.injEq, encI_inj, true_and]); (try omega))); (try case' b1 => first | exact to1 | (simp +decide only [go_sem]; (try simp (disch := first | exact ds | fail) only [go_sem, Nat.reduceAdd, Nat.reduceMul, Nat.reduceSub, Int.reduceToNat, Int.reduceNeg, Nat.reduceLeDiff, hD]); (try simp only [SV.pl.injEq, SV.sl.injEq, Value.int.injEq, Bk.c.injEq, encI_inj, true_and]); (try omega))); (try case' h1 => first | exact to1 | (simp +decide only [go_sem]; (try simp (disch := first | exact ds | fail) only [go_sem, Nat.reduceAdd, Nat.reduceMul, Nat.reduceSub, Int.reduceToNat, Int.reduceNeg, Nat.reduceLeDiff, hD]); (try simp only [SV.pl.injEq, SV.sl.injEq, Value.int.injEq, Bk.c.injEq, encI_inj, true_and]); (try omega)))
    repeat' (first | apply W.seq | apply W.skip | apply W.region | apply W.block | apply N.code | apply N.blk | apply Sl.nil | apply W.exit | apply W.ret | apply E.hit | apply E.code | apply E.fin | refine zM ?_ | apply O.i | refine sP ?_ | refine sQ fun _ => ?_ | (refine rD (id := 6) anyW [] ?_; refine rP 0 false fun _ => ?_; refine rP 1 false fun _ => ?_; refine rP 2 false fun _ => ?_; refine rP 3 true fun _ => ?_; refine rP 4 false fun _ => ?_; refine rP 5 false fun _ => ?_; refine rP 6 false fun _ => ?_; refine rP 7 true fun _ => ?_; refine rO 8 fun _ _ _ _ _ => ?_; refine k1 false [] c156 ?_; refine k2 eqTx_ok ?_; refine rP 9 false fun _ => ?_; refine rE ?_) | refine zI ?_ ?_ | (intro hb; (try simp [-List.getD_eq_getElem?_getD] at hb); (try (exfalso; omega))))
    · rw [decide_ne_of_take default k hb]
      exact rT
    · (refine N.fin ⟨by omega, ?h2, ?w2⟩; case' w2 => (refine Weak.to (by first | rfl | (simp only [virtAt_n]; rfl)) ?s2 ?b2 (by exact dfe)))
      (try case' s2 => first | exact to1 | (simp +decide only [go_sem]; (try simp (disch := first | exact ds | fail) only [go_sem, Nat.reduceAdd, Nat.reduceMul, Nat.reduceSub, Int.reduceToNat, Int.reduceNeg, Nat.reduceLeDiff, hD]); (try simp only [SV.pl.injEq, SV.sl.injEq, Value.int.injEq, Bk.c.injEq, encI_inj, true_and]); (try omega))); (try case' b2 => first | exact to1 | (simp +decide only [go_sem]; (try simp (disch := first | exact ds | fail) only [go_sem, Nat.reduceAdd, Nat.reduceMul, Nat.reduceSub, Int.reduceToNat, Int.reduceNeg, Nat.reduceLeDiff, hD]); (try simp only [SV.pl.injEq, SV.sl.injEq, Value.int.injEq, Bk.c.injEq, encI_inj, true_and]); (try omega))); (try case' h2 => first | exact to1 | (simp +decide only [go_sem]; (try simp (disch := first | exact ds | fail) only [go_sem, Nat.reduceAdd, Nat.reduceMul, Nat.reduceSub, Int.reduceToNat, Int.reduceNeg, Nat.reduceLeDiff, hD]); (try simp only [SV.pl.injEq, SV.sl.injEq, Value.int.injEq, Bk.c.injEq, encI_inj, true_and]); (try omega)))
      exact take_eq_step default xs ys k (by omega) (by omega) hH hb
    · rw [decide_eq_true (take_all_eq hH (by omega) (by omega))]
      exact rT

theorem markTxS_ok {xs : List TxA} {b : Int} (h : totTxS xs < 2 ^ 40 := by exact pm) (hp : 0 ≤ b ∧ b + sumN ctTx xs < 2 ^ 62 := by exact pm) : TSpec Try.prog 108 [(1000000, .c 3 (encL oTx xs))] [.sl 1000000 0 xs.length, .pl (.int .i64 b)] false [(1000000, .c 3 (encL oTx (mkS mkTx ctTx b xs)))] (.pl (.int .i64 (b + sumN ctTx xs))) := by
  have hall : ∀ k, k < xs.length → totTx (xs.getD k default) < 2 ^ 40 := fun k hk => by have := sumN_get totTx xs k hk; unfold totTxS at h; omega
  have hlen : totTxS xs = xs.length + sumN totTx xs := rfl
  have hD := And.intro @mkPoint.eq_1 (@mkTx.eq_1)
  refine sT 34 [.tmp 4] Try.func108 fun w0 S0 ρ0 φ0 => ?_
  repeat' (first | apply W.seq | apply W.skip | apply W.region | apply W.block | apply N.code | apply N.blk | apply Sl.nil | apply W.exit | apply W.ret | apply E.hit | apply E.code | apply E.fin | refine zM ?_ | apply O.i | refine sP ?_ | refine sQ fun _ => ?_ | refine sX fun _ => ?_ | (refine k1 false [(1000000, 0, none)] c157 ?_; refine k2 markPointS_ok ?_) | (refine k1 false [(1000000, 0, none)] c158 ?_; refine k2 markIntS_ok ?_) | refine zI ?_ ?_ | (intro hb; (try simp [-List.getD_eq_getElem?_getD] at hb); (try (exfalso; omega))))
  refine W.iter (fun k => ⟨34, [(0, .sl 1000000 0 xs.length), (1, .pl (.int .i64 (b + sumN ctTx (xs.take k)))), (5, .pl (.int .i64 k))], [(1000000, .c 3 (encL oTx ((mkS mkTx ctTx b xs).take k ++ xs.drop k)))], []⟩) (fun k => True) (xs.length) (Weak.to (by first | rfl | (simp only [virtAt_n]; rfl)) ?s3 ?b3 (by exact dfe)) ?h3 (fun k hk hH => ?body3)
  (try case' s3 => first | exact to1 | (simp +decide only [go_sem]; (try simp (disch := first | exact ds | fail) only [go_sem, Nat.reduceAdd, Nat.reduceMul, Nat.reduceSub, Int.reduceToNat, Int.reduceNeg, Nat.reduceLeDiff, hD]); (try simp only [SV.pl.injEq, SV.sl.injEq, Value.int.injEq, Bk.c.injEq, encI_inj, true_and]); (try omega))); (try case' b3 => first | exact to1 | (simp +decide only [go_sem]; (try simp (disch := first | exact ds | fail) only [go_sem, Nat.reduceAdd, Nat.reduceMul, Nat.reduceSub, Int.reduceToNat, Int.reduceNeg, Nat.reduceLeDiff, hD]); (try simp only [SV.pl.injEq, SV.sl.injEq, Value.int.injEq, Bk.c.injEq, encI_inj, true_and]); (try omega))); (try case' h3 => first | exact to1 | (simp +decide only [go_sem]; (try simp (disch := first | exact ds | fail) only [go_sem, Nat.reduceAdd, Nat.reduceMul, Nat.reduceSub, Int.reduceToNat, Int.reduceNeg, Nat.reduceLeDiff, hD]); (try simp only [SV.pl.injEq, SV.sl.injEq, Value.int.injEq, Bk.c.injEq, encI_inj, true_and]); (try omega)))
  have hsk := sumN_le ctTx xs k
  repeat' (first | apply W.seq | apply W.skip | refine W.region (id := 0) ?_ | refine W.region (id := 1) ?_ | refine W.region (id := 2) ?_ | refine W.region (id := 5) ?_ | refine W.region (id := 6) ?_ | refine W.region (id := 7) ?_ | refine W.region (id := 3) ?_ | refine W.region (id := 8) ?_ | apply W.block | apply N.code | apply N.blk | apply Sl.nil | apply W.exit | apply W.ret | apply E.hit | apply E.code | apply E.fin | refine zM ?_ | apply O.i | refine sP ?_ | refine sQ fun _ => ?_ | refine sX fun _ => ?_ | (refine k1 false [(1000000, 0, none)] c157 ?_; refine k2 markPointS_ok ?_) | (refine k1 false [(1000000, 0, none)] c158 ?_; refine k2 markIntS_ok ?_) | refine zI ?_ ?_ | (intro hb; (try simp [-List.getD_eq_getElem?_getD] at hb); (try (exfalso; omega))))
  · have hst := sumN_step ctTx xs k hb
    have hsg := sumN_get ctTx xs k hb
    have hct : ctTx (xs.getD k default) = sumN ctPoint (xs.getD k default).Ins + (xs.getD k default).Outs.length + 1 := rfl
    have hto : totTx (xs.getD k default) = (xs.getD k default).Ins.length + (xs.getD k default).Outs.length := rfl
    have hak := hall k (by omega)
    (refine gU 1000000 k 0 2000000 ?_; refine gU 1000000 k 1 2000001 ?_)
    repeat' (first | apply W.seq | apply W.skip | apply W.region | apply W.block | apply N.code | apply N.blk | apply Sl.nil | apply W.exit | apply W.ret | apply E.hit | apply E.code | apply E.fin | refine zM ?_ | apply O.i | refine sP ?_ | refine sQ fun _ => ?_ | refine sX fun _ => ?_ | (refine k1 false [(1000000, 0, none)] c157 ?_; refine k2 markPointS_ok ?_) | (refine k1 false [(1000000, 0, none)] c158 ?_; refine k2 markIntS_ok ?_) | refine zI ?_ ?_ | (intro hb; (try simp [-List.getD_eq_getElem?_getD] at hb); (try (exfalso; omega))))
    (refine N.fin ⟨by omega, ?h4, ?w4⟩; case' w4 => (refine eF 1000000 k 0 ?_; refine eF 1000000 k 1 ?_; refine Weak.to (by first | rfl | (simp only [virtAt_n]; rfl)) ?s4 ?b4 (by exact dfe)))
    (try case' s4 => first | exact to1 | (simp +decide only [go_sem]; (try simp (disch := first | exact ds | fail) only [go_sem, Nat.reduceAdd, Nat.reduceMul, Nat.reduceSub, Int.reduceToNat, Int.reduceNeg, Nat.reduceLeDiff, hD]); (try simp only [SV.pl.injEq, SV.sl.injEq, Value.int.injEq, Bk.c.injEq, encI_inj, true_and]); (try omega))); (try case' b4 => first | exact to1 | (simp +decide only [go_sem]; (try simp (disch := first | exact ds | fail) only [go_sem, Nat.reduceAdd, Nat.reduceMul, Nat.reduceSub, Int.reduceToNat, Int.reduceNeg, Nat.reduceLeDiff, hD]); (try simp only [SV.pl.injEq, SV.sl.injEq, Value.int.injEq, Bk.c.injEq, encI_inj, true_and]); (try omega))); (try case' h4 => first | exact to1 | (simp +decide only [go_sem]; (try simp (disch := first | exact ds | fail) only [go_sem, Nat.reduceAdd, Nat.reduceMul, Nat.reduceSub, Int.reduceToNat, Int.reduceNeg, Nat.reduceLeDiff, hD]); (try simp only [SV.pl.injEq, SV.sl.injEq, Value.int.injEq, Bk.c.injEq, encI_inj, true_and]); (try omega)))
    exact mk_nextL oTx mkTx ctTx b xs k (by omega)
  · obtain rfl : k = xs.length := by omega
    rw [take_drop_all _ _ (by simp)]
    exact rT

theorem heldTxS_ok {xs : List TxA} {b : Int} (h : totTxS xs < 2 ^ 40 := by exact pm) (hp : 0 ≤ b ∧ b + sumN ctTx xs < 2 ^ 62 := by exact pm) : TSpec Try.prog 109 [] [.pd (encL fTx (mkS mkTx ctTx b xs)), .pl (.int .i64 b)] false [] (.pl (.int .i64 (b + sumN ctTx xs))) := by
  have hall : ∀ k, k < xs.length → totTx (xs.getD k default) < 2 ^ 40 := fun k hk => by have := sumN_get totTx xs k hk; unfold totTxS at h; omega
  have hlen : totTxS xs = xs.length + sumN totTx xs := rfl
  have hD := And.intro @mkPoint.eq_1 (@mkTx.eq_1)
  refine sT 40 [.tmp 4] Try.func109 fun w0 S0 ρ0 φ0 => ?_
  repeat' (first | apply W.seq | apply W.skip | apply W.region | apply W.block | apply N.code | apply N.blk | apply Sl.nil | apply W.exit | apply W.ret | apply E.hit | apply E.code | apply E.fin | refine zM ?_ | apply O.i | refine sP ?_ | refine sQ fun _ => ?_ | (refine k1 false [] c159 ?_; refine k2 heldPointS_ok ?_) | (refine k1 false [] c160 ?_; refine k2 heldIntS_ok ?_) | refine zI ?_ ?_ | (intro hb; (try simp [-List.getD_eq_getElem?_getD] at hb); (try (exfalso; omega))))
  refine W.iter (fun k => ⟨40, [(0, .pd (encL fTx (mkS mkTx ctTx b xs))), (1, .pl (.int .i64 (b + sumN ctTx (xs.take k)))), (5, .pl (.int .i64 k))], [], []⟩) (fun k => True) (xs.length) (Weak.to (by first | rfl | (simp only [virtAt_n]; rfl)) ?s5 ?b5 (by exact dfe)) ?h5 (fun k hk hH => ?body5)
  (try case' s5 => first | exact to1 | (simp +decide only [go_sem]; (try simp (disch := first | exact ds | fail) only [go_sem, Nat.reduceAdd, Nat.reduceMul, Nat.reduceSub, Int.reduceToNat, Int.reduceNeg, Nat.reduceLeDiff, hD]); (try simp only [SV.pl.injEq, SV.sl.injEq, Value.int.injEq, Bk.c.injEq, encI_inj, true_and]); (try omega))); (try case' b5 => first | exact to1 | (simp +decide only [go_sem]; (try simp (disch := first | exact ds | fail) only [go_sem, Nat.reduceAdd, Nat.reduceMul, Nat.reduceSub, Int.reduceToNat, Int.reduceNeg, Nat.reduceLeDiff, hD]); (try simp only [SV.pl.injEq, SV.sl.injEq, Value.int.injEq, Bk.c.injEq, encI_inj, true_and]); (try omega))); (try case' h5 => first | exact to1 | (simp +decide only [go_sem]; (try simp (disch := first | exact ds | fail) only [go_sem, Nat.reduceAdd, Nat.reduceMul, Nat.reduceSub, Int.reduceToNat, Int.reduceNeg, Nat.reduceLeDiff, hD]); (try simp only [SV.pl.injEq, SV.sl.injEq, Value.int.injEq, Bk.c.injEq, encI_inj, true_and]); (try omega)))
  have hsk := sumN_le ctTx xs k
  repeat' (first | apply W.seq | apply W.skip | refine W.region (id := 0) ?_ | refine W.region (id := 1) ?_ | refine W.region (id := 2) ?_ | refine W.region (id := 5) ?_ | refine W.region (id := 6) ?_ | refine W.region (id := 7) ?_ | refine W.region (id := 8) ?_ | refine W.region (id := 9) ?_ | refine W.region (id := 10) ?_ | refine W.region (id := 11) ?_ | refine W.region (id := 12) ?_ | refine W.region (id := 3) ?_ | refine W.region (id := 13) ?_ | apply W.block | apply N.code | apply N.blk | apply Sl.nil | apply W.exit | apply W.ret | apply E.hit | apply E.code | apply E.fin | refine zM ?_ | apply O.i | refine sP ?_ | refine sQ fun _ => ?_ | (refine k1 false [] c159 ?_; refine k2 heldPointS_ok ?_) | (refine k1 false [] c160 ?_; refine k2 heldIntS_ok ?_) | refine zI ?_ ?_ | (intro hb; (try simp [-List.getD_eq_getElem?_getD] at hb); (try (exfalso; omega))))
  · have hst := sumN_step ctTx xs k hb
    have hsg := sumN_get ctTx xs k hb
    have hct : ctTx (xs.getD k default) = sumN ctPoint (xs.getD k default).Ins + (xs.getD k default).Outs.length + 1 := rfl
    have hto : totTx (xs.getD k default) = (xs.getD k default).Ins.length + (xs.getD k default).Outs.length := rfl
    have hak := hall k (by omega)
    repeat' (first | apply W.seq | apply W.skip | apply W.region | apply W.block | apply N.code | apply N.blk | apply Sl.nil | apply W.exit | apply W.ret | apply E.hit | apply E.code | apply E.fin | refine zM ?_ | apply O.i | refine sP ?_ | refine sQ fun _ => ?_ | (refine k1 false [] c159 ?_; refine k2 heldPointS_ok ?_) | (refine k1 false [] c160 ?_; refine k2 heldIntS_ok ?_) | refine zI ?_ ?_ | (intro hb; (try simp [-List.getD_eq_getElem?_getD] at hb); (try (exfalso; omega))))
    (refine N.fin ⟨by omega, ?h6, ?w6⟩; case' w6 => (refine Weak.to (by first | rfl | (simp only [virtAt_n]; rfl)) ?s6 ?b6 (by exact dfe)))
    (try case' s6 => first | exact to1 | (simp +decide only [go_sem]; (try simp (disch := first | exact ds | fail) only [go_sem, Nat.reduceAdd, Nat.reduceMul, Nat.reduceSub, Int.reduceToNat, Int.reduceNeg, Nat.reduceLeDiff, hD]); (try simp only [SV.pl.injEq, SV.sl.injEq, Value.int.injEq, Bk.c.injEq, encI_inj, true_and]); (try omega))); (try case' b6 => first | exact to1 | (simp +decide only [go_sem]; (try simp (disch := first | exact ds | fail) only [go_sem, Nat.reduceAdd, Nat.reduceMul, Nat.reduceSub, Int.reduceToNat, Int.reduceNeg, Nat.reduceLeDiff, hD]); (try simp only [SV.pl.injEq, SV.sl.injEq, Value.int.injEq, Bk.c.injEq, encI_inj, true_and]); (try omega))); (try case' h6 => first | exact to1 | (simp +decide only [go_sem]; (try simp (disch := first | exact ds | fail) only [go_sem, Nat.reduceAdd, Nat.reduceMul, Nat.reduceSub, Int.reduceToNat, Int.reduceNeg, Nat.reduceLeDiff, hD]); (try simp only [SV.pl.injEq, SV.sl.injEq, Value.int.injEq, Bk.c.injEq, encI_inj, true_and]); (try omega)))
  · obtain rfl : k = xs.length := by omega
    exact rT

structure BlockA where
  Prev : H32
  Root : H32
  Height : Int
  Txs : List TxA
  deriving DecidableEq, Inhabited
def oBlock (a : BlockA) : List SV := encA .u8 a.Prev.l ++ (encA .u8 a.Root.l ++ ([.pl (.int .i64 a.Height), .ow 3 (encL oTx a.Txs)]))
def fBlock (a : BlockA) : List SV := encA .u8 a.Prev.l ++ (encA .u8 a.Root.l ++ ([.pl (.int .i64 a.Height), .pd (encL fTx a.Txs)]))
def totBlock (a : BlockA) : Nat := (a.Txs.length + sumN totTx a.Txs)
def lnBlock (a : BlockA) : Prop := lnTxS a.Txs
def ctBlock (a : BlockA) : Nat := 32 + 32 + 1 + sumN ctTx a.Txs
def mkBlock (b : Int) (a : BlockA) : BlockA := ⟨mkH (b), mkH (b + 32), b + 32 + 32, mkS mkTx ctTx (b + 32 + 32 + 1) a.Txs⟩
theorem oBlock_clo (xs : List BlockA) : cloRows (encL oBlock xs) = true := encL_clo _ (fun x => by simp [oBlock, fPoint_clo, fPoint_shut, fPoint_frz, SV.clo, SV.clo0, encI_clo, encI_shut, encI_frz, shutL, SV.shut, frzL, SV.frz, oB_clo, oB_shut, oB_frz, oTx_clo, oTx_shut, oTx_frz, cloRow_append, cloRow_cons, cloRow_nil, encA_clo, shutL_append, encA_shut, frzL_append, encA_frz]) xs
theorem oBlock_shut (xs : List BlockA) : shutRows (encL oBlock xs) = true := encL_shut _ (fun x => by simp [oBlock, fPoint_clo, fPoint_shut, fPoint_frz, SV.clo, SV.clo0, encI_clo, encI_shut, encI_frz, shutL, SV.shut, frzL, SV.frz, oB_clo, oB_shut, oB_frz, oTx_clo, oTx_shut, oTx_frz, cloRow_append, cloRow_cons, cloRow_nil, encA_clo, shutL_append, encA_shut, frzL_append, encA_frz]) xs
theorem oBlock_frz (xs : List BlockA) : frzRows (encL oBlock xs) = encL fBlock xs := encL_frz _ (fun x => by simp [oBlock, fBlock, fPoint_clo, fPoint_shut, fPoint_frz, SV.clo, SV.clo0, encI_clo, encI_shut, encI_frz, shutL, SV.shut, frzL, SV.frz, oB_clo, oB_shut, oB_frz, oTx_clo, oTx_shut, oTx_frz, cloRow_append, cloRow_cons, cloRow_nil, encA_clo, shutL_append, encA_shut, frzL_append, encA_frz]) xs
theorem oBlock_len (xs : List BlockA) : RowsLen (encL oBlock xs) 66 = True := encL_rowsLen oBlock (fun x => by simp [oBlock, encA_length]) xs
attribute [go_sem] oBlock fBlock oBlock_clo oBlock_shut oBlock_frz oBlock_len
theorem eqBlock_ok {a b : BlockA} (h : totBlock a < 2 ^ 40 := by exact pm) : TSpec Try.prog 33 [] [.ag (fBlock a), .ag (fBlock b)] false [] (.pl (.bool (decide (a = b)))) := by
  unfold totBlock at h
  have hu3 : totTxS a.Txs = (a.Txs.length + sumN totTx a.Txs) := rfl
  simp only [fBlock]
  have hD := And.intro @mkPoint.eq_1 (And.intro @mkTx.eq_1 (@mkBlock.eq_1))
  refine sT 28 [.tmp 4] Try.func33 fun w0 S0 ρ0 φ0 => ?_
  repeat' (first | apply W.seq | apply W.skip | apply W.region | apply W.block | apply N.code | apply N.blk | apply Sl.nil | apply W.exit | apply W.ret | apply E.hit | apply E.code | apply E.fin | refine zM ?_ | apply O.i | refine sP ?_ | refine sQ fun _ => ?_ | refine sX fun _ => ?_ | (refine k1 false [] c106 ?_; refine k2 eqH_ok ?_) | (refine k1 false [] c107 ?_; refine k2 eqTxS_ok ?_) | refine zI ?_ ?_ | (intro hb; (try simp [-List.getD_eq_getElem?_getD] at hb); (try (exfalso; omega))))
  all_goals (first | rw [show decide (a = b) = false from decide_eq_false fun e => hb (by rw [e])] | rw [show decide (a = b) = true from decide_eq_true (by cases a; cases b; simp_all)])
  all_goals exact rT

theorem markBlock_ok {a : BlockA} {b : Int} (h : totBlock a < 2 ^ 40 := by exact pm) (hp : 0 ≤ b ∧ b + ctBlock a < 2 ^ 62 := by exact pm) : TSpec Try.prog 34 [(1000000, .c 3 (encL oTx a.Txs))] [.ag (encA .u8 a.Prev.l ++ (encA .u8 a.Root.l ++ ([.pl (.int .i64 a.Height), .sl 1000000 0 a.Txs.length]))), .pl (.int .i64 b)] false [(1000000, .c 3 (encL oTx (mkS mkTx ctTx (b) a.Txs)))] (.pl (.int .i64 (b + sumN ctTx a.Txs))) := by
  have hct : ctBlock a = 32 + 32 + 1 + sumN ctTx a.Txs := rfl
  have htot : totBlock a = (a.Txs.length + sumN totTx a.Txs) := rfl
  have hu3 : totTxS a.Txs = (a.Txs.length + sumN totTx a.Txs) := rfl
  have hD := And.intro @mkPoint.eq_1 (And.intro @mkTx.eq_1 (@mkBlock.eq_1))
  refine sT 10 [.tmp 4] Try.func34 fun w0 S0 ρ0 φ0 => ?_
  repeat' (first | apply W.seq | apply W.skip | apply W.region | apply W.block | apply N.code | apply N.blk | apply Sl.nil | apply W.exit | apply W.ret | apply E.hit | apply E.code | apply E.fin | refine zM ?_ | apply O.i | refine sP ?_ | refine sQ fun _ => ?_ | refine sX fun _ => ?_ | (refine k1 false [(1000000, 0, none)] c108 ?_; refine k2 markTxS_ok ?_) | refine zI ?_ ?_ | (intro hb; (try simp [-List.getD_eq_getElem?_getD] at hb); (try (exfalso; omega))))
  exact rT

theorem heldBlock_ok {a : BlockA} {b : Int} (h : totBlock a < 2 ^ 40 := by exact pm) (hp : 0 ≤ b ∧ b + ctBlock a < 2 ^ 62 := by exact pm) : TSpec Try.prog 35 [] [.ag (encA .u8 a.Prev.l ++ (encA .u8 a.Root.l ++ ([.pl (.int .i64 a.Height), .pd (encL fTx (mkS mkTx ctTx (b) a.Txs))]))), .pl (.int .i64 b)] false [] (.pl (.int .i64 (b + sumN ctTx a.Txs))) := by
  have hct : ctBlock a = 32 + 32 + 1 + sumN ctTx a.Txs := rfl
  have htot : totBlock a = (a.Txs.length + sumN totTx a.Txs) := rfl
  have hu3 : totTxS a.Txs = (a.Txs.length + sumN totTx a.Txs) := rfl
  have hD := And.intro @mkPoint.eq_1 (And.intro @mkTx.eq_1 (@mkBlock.eq_1))
  refine sT 12 [.tmp 4] Try.func35 fun w0 S0 ρ0 φ0 => ?_
  repeat' (first | apply W.seq | apply W.skip | apply W.region | apply W.block | apply N.code | apply N.blk | apply Sl.nil | apply W.exit | apply W.ret | apply E.hit | apply E.code | apply E.fin | refine zM ?_ | apply O.i | refine sP ?_ | refine sQ fun _ => ?_ | refine sX fun _ => ?_ | (refine k1 false [] c109 ?_; refine k2 heldTxS_ok ?_) | refine zI ?_ ?_ | (intro hb; (try simp [-List.getD_eq_getElem?_getD] at hb); (try (exfalso; omega))))
  exact rT

end Go.Proofs.Ytnancifnodbkdaa

