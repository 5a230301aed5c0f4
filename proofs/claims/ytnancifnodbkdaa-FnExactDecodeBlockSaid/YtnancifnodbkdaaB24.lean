import Derived.Test.YtnancifnodbkdaaB23
namespace Go.Proofs.Ytnancifnodbkdaa
open Go Go.Vcg Go.IntWalk
set_option maxRecDepth 100000
set_option maxHeartbeats 20000000
set_option linter.unusedSimpArgs false
set_option linter.unusedVariables false
theorem blkBytes_ok {a : BlockA} (hl : totTxS a.Txs < 2 ^ 40 := by exact pm) (hv : blkOk a := by exact pm) : TSpec Try.prog 124 [] [.ag (fBlock a)] false [] (.ow 1 (encI .u8 (encBlock a))) := by
  have hall : ∀ k, k < a.Txs.length → totTx (a.Txs.getD k default) < 2 ^ 40 := fun k hk => by have := sumN_get totTx a.Txs k hk; unfold totTxS at hl; omega
  have hlen : totTxS a.Txs = a.Txs.length + sumN totTx a.Txs := rfl
  have h1 := hv.1
  unfold hdOk at h1
  have hhd := head_ok (a := a) ⟨by omega, by omega⟩
  have bo := byte_of (x := a.Txs.length) (by omega)
  simp only [fBlock] at hhd ⊢
  have hD := And.intro @encI_append (And.intro @encI_one (And.intro @encI_nil (And.intro @encHead_length ((bo)))))
  have hD := And.intro @encI_append (And.intro @encI_one (And.intro @encI_nil (And.intro @encHead_length ((bo)))))
  refine sT 27 [.tmp 2] Try.func124 fun w0 S0 ρ0 φ0 => ?_
  repeat' (first | apply W.seq | apply W.skip | apply W.region | apply W.block | apply N.code | apply N.blk | apply Sl.nil | apply W.exit | apply W.ret | apply E.hit | apply E.code | apply E.fin | refine zM ?_ | apply O.i | refine sP ?_ | refine sQ fun _ => ?_ | refine sX fun _ => ?_ | (refine rD (id := 1) (fun b => b != 1) [7] ?_; refine rP 0 true fun _ => ?_; refine rP 2 false fun _ => ?_; refine rP 3 true fun _ => ?_; refine rP 4 false fun _ => ?_; refine rP 5 false fun _ => ?_; (focus (refine rA [1, 6] (xO (fun _ _ _ _ _ => ?_) (xO (fun _ _ _ _ _ => ?_) RX.nil)); (focus (refine k1 false [] c166 ?_; refine k2 hhd ?_; refine rO 6 fun _ _ _ _ _ => ?_; refine sX fun _ => ?_; refine rO 7 fun _ _ _ _ _ => ?_; refine sX fun _ => ?_; refine rP 8 false fun _ => ?_; refine rE ?_)); rotate_left; (focus (refine sX fun _ => ?_; refine rO 1 fun _ _ _ _ _ => ?_; refine k1 false [] c166 ?_; refine k2 hhd ?_; refine rO 7 fun _ _ _ _ _ => ?_; refine sX fun _ => ?_; refine rP 8 false fun _ => ?_; refine rE ?_)); rotate_left))) | (refine k1 false [] c167 ?_; refine k2 (txBytes_ok (hall k (by omega)) (hv.2 k (by omega))) ?_) | refine zI ?_ ?_ | (intro hb; (try simp [-List.getD_eq_getElem?_getD] at hb); (try (exfalso; omega))))
  · (refine gR 13 2000000 ?_)
    refine W.iter (fun k => ⟨27, [(3, .sl 2000000 0 (accB a (a.Txs.take k)).length), (15, .pd (encL fTx a.Txs)), (16, .pl (.int .i64 a.Txs.length)), (17, .pl (.int .i64 k))], [(2000000, .c 1 (encI .u8 (accB a (a.Txs.take k))))], []⟩) (fun k => True) (a.Txs.length) (Weak.to (by first | rfl | (simp only [virtAt_n]; rfl)) ?s1 ?b1 (by exact dfe)) ?h1 (fun k hk hH => ?body1)
    (try case' s1 => first | exact to1 | (simp +decide only [go_sem]; (try simp (disch := first | exact ds | fail) only [go_sem, Nat.reduceAdd, Nat.reduceMul, Nat.reduceSub, Int.reduceToNat, Int.reduceNeg, Nat.reduceLeDiff, hD]); (try simp only [SV.pl.injEq, SV.sl.injEq, Value.int.injEq, Bk.c.injEq, encI_inj, true_and]); (try omega))); (try case' b1 => first | exact to1 | (simp +decide only [go_sem]; (try simp (disch := first | exact ds | fail) only [go_sem, Nat.reduceAdd, Nat.reduceMul, Nat.reduceSub, Int.reduceToNat, Int.reduceNeg, Nat.reduceLeDiff, hD]); (try simp only [SV.pl.injEq, SV.sl.injEq, Value.int.injEq, Bk.c.injEq, encI_inj, true_and]); (try omega))); (try case' h1 => first | exact to1 | (simp +decide only [go_sem]; (try simp (disch := first | exact ds | fail) only [go_sem, Nat.reduceAdd, Nat.reduceMul, Nat.reduceSub, Int.reduceToNat, Int.reduceNeg, Nat.reduceLeDiff, hD]); (try simp only [SV.pl.injEq, SV.sl.injEq, Value.int.injEq, Bk.c.injEq, encI_inj, true_and]); (try omega)))
    · exact accB_nil a
    · rw [← accB_nil, List.length_append, encHead_length]
      rfl
    have hle := accB_le a k hk fun i hi => hv.2 i (by omega)
    have hD := And.intro @encI_append (And.intro @encI_one (And.intro @encI_nil ((bo))))
    repeat' (first | apply W.seq | apply W.skip | refine W.region (id := 0) ?_ | refine W.region (id := 2) ?_ | refine W.region (id := 3) ?_ | refine W.region (id := 5) ?_ | refine W.region (id := 6) ?_ | refine W.region (id := 7) ?_ | apply W.block | apply N.code | apply N.blk | apply Sl.nil | apply W.exit | apply W.ret | apply E.hit | apply E.code | apply E.fin | refine zM ?_ | apply O.i | refine sP ?_ | refine sQ fun _ => ?_ | refine sX fun _ => ?_ | (refine rD (id := 1) (fun b => b != 1) [7] ?_; refine rP 0 true fun _ => ?_; refine rP 2 false fun _ => ?_; refine rP 3 true fun _ => ?_; refine rP 4 false fun _ => ?_; refine rP 5 false fun _ => ?_; (focus (refine rA [1, 6] (xO (fun _ _ _ _ _ => ?_) (xO (fun _ _ _ _ _ => ?_) RX.nil)); (focus (refine k1 false [] c166 ?_; refine k2 hhd ?_; refine rO 6 fun _ _ _ _ _ => ?_; refine sX fun _ => ?_; refine rO 7 fun _ _ _ _ _ => ?_; refine sX fun _ => ?_; refine rP 8 false fun _ => ?_; refine rE ?_)); rotate_left; (focus (refine sX fun _ => ?_; refine rO 1 fun _ _ _ _ _ => ?_; refine k1 false [] c166 ?_; refine k2 hhd ?_; refine rO 7 fun _ _ _ _ _ => ?_; refine sX fun _ => ?_; refine rP 8 false fun _ => ?_; refine rE ?_)); rotate_left))) | (refine k1 false [] c167 ?_; refine k2 (txBytes_ok (hall k (by omega)) (hv.2 k (by omega))) ?_) | refine zI ?_ ?_ | (intro hb; (try simp [-List.getD_eq_getElem?_getD] at hb); (try (exfalso; omega))))
    · have hyl := txOk_len (hv.2 k hb)
      have hst := accB_step a k hb
      have hsl := congrArg List.length hst
      rw [List.length_append] at hsl
      have hD := And.intro @encI_append (And.intro @encI_one (And.intro @encI_nil (And.intro (bo) ((hst)))))
      repeat' (first | apply W.seq | apply W.skip | apply W.region | apply W.block | apply N.code | apply N.blk | apply Sl.nil | apply W.exit | apply W.ret | apply E.hit | apply E.code | apply E.fin | refine zM ?_ | apply O.i | refine sP ?_ | refine sQ fun _ => ?_ | refine sX fun _ => ?_ | (refine rD (id := 1) (fun b => b != 1) [7] ?_; refine rP 0 true fun _ => ?_; refine rP 2 false fun _ => ?_; refine rP 3 true fun _ => ?_; refine rP 4 false fun _ => ?_; refine rP 5 false fun _ => ?_; (focus (refine rA [1, 6] (xO (fun _ _ _ _ _ => ?_) (xO (fun _ _ _ _ _ => ?_) RX.nil)); (focus (refine k1 false [] c166 ?_; refine k2 hhd ?_; refine rO 6 fun _ _ _ _ _ => ?_; refine sX fun _ => ?_; refine rO 7 fun _ _ _ _ _ => ?_; refine sX fun _ => ?_; refine rP 8 false fun _ => ?_; refine rE ?_)); rotate_left; (focus (refine sX fun _ => ?_; refine rO 1 fun _ _ _ _ _ => ?_; refine k1 false [] c166 ?_; refine k2 hhd ?_; refine rO 7 fun _ _ _ _ _ => ?_; refine sX fun _ => ?_; refine rP 8 false fun _ => ?_; refine rE ?_)); rotate_left))) | (refine k1 false [] c167 ?_; refine k2 (txBytes_ok (hall k (by omega)) (hv.2 k (by omega))) ?_) | refine zI ?_ ?_ | (intro hb; (try simp [-List.getD_eq_getElem?_getD] at hb); (try (exfalso; omega))))
      (refine N.fin ⟨by omega, ?h2, ?w2⟩; case' w2 => (refine eR 24 2000000 ?_; refine Weak.to (by first | rfl | (simp only [virtAt_n]; rfl)) ?s2 ?b2 (by exact dfe)))
      (try case' s2 => first | exact to1 | (simp +decide only [go_sem]; (try simp (disch := first | exact ds | fail) only [go_sem, Nat.reduceAdd, Nat.reduceMul, Nat.reduceSub, Int.reduceToNat, Int.reduceNeg, Nat.reduceLeDiff, hD]); (try simp only [SV.pl.injEq, SV.sl.injEq, Value.int.injEq, Bk.c.injEq, encI_inj, true_and]); (try omega))); (try case' b2 => first | exact to1 | (simp +decide only [go_sem]; (try simp (disch := first | exact ds | fail) only [go_sem, Nat.reduceAdd, Nat.reduceMul, Nat.reduceSub, Int.reduceToNat, Int.reduceNeg, Nat.reduceLeDiff, hD]); (try simp only [SV.pl.injEq, SV.sl.injEq, Value.int.injEq, Bk.c.injEq, encI_inj, true_and]); (try omega))); (try case' h2 => first | exact to1 | (simp +decide only [go_sem]; (try simp (disch := first | exact ds | fail) only [go_sem, Nat.reduceAdd, Nat.reduceMul, Nat.reduceSub, Int.reduceToNat, Int.reduceNeg, Nat.reduceLeDiff, hD]); (try simp only [SV.pl.injEq, SV.sl.injEq, Value.int.injEq, Bk.c.injEq, encI_inj, true_and]); (try omega)))
    obtain rfl : k = a.Txs.length := by omega
    have hta : a.Txs.take a.Txs.length = a.Txs := List.take_length
    rw [show encBlock a = accB a a.Txs from rfl]
    have hD := (hta)
    exact rT
  · (refine gR 13 2000000 ?_)
    refine W.iter (fun k => ⟨27, [(3, .sl 2000000 0 (accB a (a.Txs.take k)).length), (15, .pd (encL fTx a.Txs)), (16, .pl (.int .i64 a.Txs.length)), (17, .pl (.int .i64 k))], [(2000000, .c 1 (encI .u8 (accB a (a.Txs.take k))))], []⟩) (fun k => True) (a.Txs.length) (Weak.to (by first | rfl | (simp only [virtAt_n]; rfl)) ?s3 ?b3 (by exact dfe)) ?h3 (fun k hk hH => ?body3)
    (try case' s3 => first | exact to1 | (simp +decide only [go_sem]; (try simp (disch := first | exact ds | fail) only [go_sem, Nat.reduceAdd, Nat.reduceMul, Nat.reduceSub, Int.reduceToNat, Int.reduceNeg, Nat.reduceLeDiff, hD]); (try simp only [SV.pl.injEq, SV.sl.injEq, Value.int.injEq, Bk.c.injEq, encI_inj, true_and]); (try omega))); (try case' b3 => first | exact to1 | (simp +decide only [go_sem]; (try simp (disch := first | exact ds | fail) only [go_sem, Nat.reduceAdd, Nat.reduceMul, Nat.reduceSub, Int.reduceToNat, Int.reduceNeg, Nat.reduceLeDiff, hD]); (try simp only [SV.pl.injEq, SV.sl.injEq, Value.int.injEq, Bk.c.injEq, encI_inj, true_and]); (try omega))); (try case' h3 => first | exact to1 | (simp +decide only [go_sem]; (try simp (disch := first | exact ds | fail) only [go_sem, Nat.reduceAdd, Nat.reduceMul, Nat.reduceSub, Int.reduceToNat, Int.reduceNeg, Nat.reduceLeDiff, hD]); (try simp only [SV.pl.injEq, SV.sl.injEq, Value.int.injEq, Bk.c.injEq, encI_inj, true_and]); (try omega)))
    · exact accB_nil a
    · rw [← accB_nil, List.length_append, encHead_length]
      rfl
    have hle := accB_le a k hk fun i hi => hv.2 i (by omega)
    have hD := And.intro @encI_append (And.intro @encI_one (And.intro @encI_nil ((bo))))
    repeat' (first | apply W.seq | apply W.skip | refine W.region (id := 0) ?_ | refine W.region (id := 2) ?_ | refine W.region (id := 3) ?_ | refine W.region (id := 5) ?_ | refine W.region (id := 6) ?_ | refine W.region (id := 7) ?_ | apply W.block | apply N.code | apply N.blk | apply Sl.nil | apply W.exit | apply W.ret | apply E.hit | apply E.code | apply E.fin | refine zM ?_ | apply O.i | refine sP ?_ | refine sQ fun _ => ?_ | refine sX fun _ => ?_ | (refine rD (id := 1) (fun b => b != 1) [7] ?_; refine rP 0 true fun _ => ?_; refine rP 2 false fun _ => ?_; refine rP 3 true fun _ => ?_; refine rP 4 false fun _ => ?_; refine rP 5 false fun _ => ?_; (focus (refine rA [1, 6] (xO (fun _ _ _ _ _ => ?_) (xO (fun _ _ _ _ _ => ?_) RX.nil)); (focus (refine k1 false [] c166 ?_; refine k2 hhd ?_; refine rO 6 fun _ _ _ _ _ => ?_; refine sX fun _ => ?_; refine rO 7 fun _ _ _ _ _ => ?_; refine sX fun _ => ?_; refine rP 8 false fun _ => ?_; refine rE ?_)); rotate_left; (focus (refine sX fun _ => ?_; refine rO 1 fun _ _ _ _ _ => ?_; refine k1 false [] c166 ?_; refine k2 hhd ?_; refine rO 7 fun _ _ _ _ _ => ?_; refine sX fun _ => ?_; refine rP 8 false fun _ => ?_; refine rE ?_)); rotate_left))) | (refine k1 false [] c167 ?_; refine k2 (txBytes_ok (hall k (by omega)) (hv.2 k (by omega))) ?_) | refine zI ?_ ?_ | (intro hb; (try simp [-List.getD_eq_getElem?_getD] at hb); (try (exfalso; omega))))
    · have hyl := txOk_len (hv.2 k hb)
      have hst := accB_step a k hb
      have hsl := congrArg List.length hst
      rw [List.length_append] at hsl
      have hD := And.intro @encI_append (And.intro @encI_one (And.intro @encI_nil (And.intro (bo) ((hst)))))
      repeat' (first | apply W.seq | apply W.skip | apply W.region | apply W.block | apply N.code | apply N.blk | apply Sl.nil | apply W.exit | apply W.ret | apply E.hit | apply E.code | apply E.fin | refine zM ?_ | apply O.i | refine sP ?_ | refine sQ fun _ => ?_ | refine sX fun _ => ?_ | (refine rD (id := 1) (fun b => b != 1) [7] ?_; refine rP 0 true fun _ => ?_; refine rP 2 false fun _ => ?_; refine rP 3 true fun _ => ?_; refine rP 4 false fun _ => ?_; refine rP 5 false fun _ => ?_; (focus (refine rA [1, 6] (xO (fun _ _ _ _ _ => ?_) (xO (fun _ _ _ _ _ => ?_) RX.nil)); (focus (refine k1 false [] c166 ?_; refine k2 hhd ?_; refine rO 6 fun _ _ _ _ _ => ?_; refine sX fun _ => ?_; refine rO 7 fun _ _ _ _ _ => ?_; refine sX fun _ => ?_; refine rP 8 false fun _ => ?_; refine rE ?_)); rotate_left; (focus (refine sX fun _ => ?_; refine rO 1 fun _ _ _ _ _ => ?_; refine k1 false [] c166 ?_; refine k2 hhd ?_; refine rO 7 fun _ _ _ _ _ => ?_; refine sX fun _ => ?_; refine rP 8 false fun _ => ?_; refine rE ?_)); rotate_left))) | (refine k1 false [] c167 ?_; refine k2 (txBytes_ok (hall k (by omega)) (hv.2 k (by omega))) ?_) | refine zI ?_ ?_ | (intro hb; (try simp [-List.getD_eq_getElem?_getD] at hb); (try (exfalso; omega))))
      (refine N.fin ⟨by omega, ?h4, ?w4⟩; case' w4 => (refine eR 24 2000000 ?_; refine Weak.to (by first | rfl | (simp only [virtAt_n]; rfl)) ?s4 ?b4 (by exact dfe)))
      (try case' s4 => first | exact to1 | (simp +decide only [go_sem]; (try simp (disch := first | exact ds | fail) only [go_sem, Nat.reduceAdd, Nat.reduceMul, Nat.reduceSub, Int.reduceToNat, Int.reduceNeg, Nat.reduceLeDiff, hD]); (try simp only [SV.pl.injEq, SV.sl.injEq, Value.int.injEq, Bk.c.injEq, encI_inj, true_and]); (try omega))); (try case' b4 => first | exact to1 | (simp +decide only [go_sem]; (try simp (disch := first | exact ds | fail) only [go_sem, Nat.reduceAdd, Nat.reduceMul, Nat.reduceSub, Int.reduceToNat, Int.reduceNeg, Nat.reduceLeDiff, hD]); (try simp only [SV.pl.injEq, SV.sl.injEq, Value.int.injEq, Bk.c.injEq, encI_inj, true_and]); (try omega))); (try case' h4 => first | exact to1 | (simp +decide only [go_sem]; (try simp (disch := first | exact ds | fail) only [go_sem, Nat.reduceAdd, Nat.reduceMul, Nat.reduceSub, Int.reduceToNat, Int.reduceNeg, Nat.reduceLeDiff, hD]); (try simp only [SV.pl.injEq, SV.sl.injEq, Value.int.injEq, Bk.c.injEq, encI_inj, true_and]); (try omega)))
    obtain rfl : k = a.Txs.length := by omega
    have hta : a.Txs.take a.Txs.length = a.Txs := List.take_length
    rw [show encBlock a = accB a a.Txs from rfl]
    have hD := (hta)
    exact rT
theorem imEncodeBlock_ok {a : BlockA} {b : Bool} (hl : totTxS a.Txs < 2 ^ 40 := by exact pm) (hP : b = true ↔ blkOk a := by exact pm) : TSpec Try.prog 56 [] [.ag (fBlock a)] false [] (.tu [.ow 1 (encI .u8 (if b then encBlock a else [])), .pl (.bool b)]) := by
  simp only [fBlock]
  cases b with
  | false =>
    rw [if_neg (by simp)]
    have hD := @encI_nil
    refine sT 9 [.tmp 2, .tmp 3] Try.func56 fun w0 S0 ρ0 φ0 => ?_
    repeat' (first | apply W.seq | apply W.skip | apply W.region | apply W.block | apply N.code | apply N.blk | apply Sl.nil | apply W.exit | apply W.ret | apply E.hit | apply E.code | apply E.fin | refine zM ?_ | apply O.i | refine sP ?_ | refine sQ fun _ => ?_ | refine sX fun _ => ?_ | (refine k1 false [] c105 ?_; refine k2 (blkValid_ok hl hP) ?_) | (refine k1 false [] c124 ?_; refine k2 (blkBytes_ok hl hv) ?_) | refine zI ?_ ?_ | (intro hb; (try simp [-List.getD_eq_getElem?_getD] at hb); (try (exfalso; omega))))
    exact rT
  | true =>
    have hv := hP.mp rfl
    rw [if_pos rfl]
    have hD := @encI_nil
    refine sT 9 [.tmp 2, .tmp 3] Try.func56 fun w0 S0 ρ0 φ0 => ?_
    repeat' (first | apply W.seq | apply W.skip | apply W.region | apply W.block | apply N.code | apply N.blk | apply Sl.nil | apply W.exit | apply W.ret | apply E.hit | apply E.code | apply E.fin | refine zM ?_ | apply O.i | refine sP ?_ | refine sQ fun _ => ?_ | refine sX fun _ => ?_ | (refine k1 false [] c105 ?_; refine k2 (blkValid_ok hl hP) ?_) | (refine k1 false [] c124 ?_; refine k2 (blkBytes_ok hl hv) ?_) | refine zI ?_ ?_ | (intro hb; (try simp [-List.getD_eq_getElem?_getD] at hb); (try (exfalso; omega))))
    exact rT
theorem encBlock_len {a : BlockA} (h : blkOk a) : (encBlock a).length < 4000 := by
  have := accB_le a a.Txs.length (Nat.le_refl _) h.2
  rw [List.take_length] at this
  have h1 := h.1.1
  show (accB a a.Txs).length < 4000
  omega
theorem encBlockb_len {a : BlockA} {b : Bool} (hP : b = true ↔ blkOk a) : (if b then encBlock a else []).length < 4000 := by
  cases b with
  | false => simp
  | true => rw [if_pos rfl]; exact encBlock_len (hP.mp rfl)
theorem nth_eA (k : IntKind) (r : List SV) : ∀ (xs : List Int) (j : Nat) (_ : xs.length ≤ j), nth (encA k xs ++ r) j = nth r (j - xs.length)
  | [], j, _ => rfl
  | x :: xs, 0, h => by simp at h
  | x :: xs, j + 1, h => by
    show nth (encA k xs ++ r) j = _
    rw [nth_eA k r xs j (by simpa using h), List.length_cons, Nat.add_sub_add_right]
attribute [go_sem] nth_eA
theorem ctTxs_le (xs : List TxA) : sumN ctTx xs ≤ 33 * sumN totTx xs + xs.length := by
  induction xs with
  | nil => simp [sumN_nil]
  | cons x xs ih =>
    have h1 : ctTx x = sumN ctPoint x.Ins + x.Outs.length + 1 := rfl
    have h2 : totTx x = x.Ins.length + x.Outs.length := rfl
    have h3 := sumPoint x.Ins
    simp only [sumN, List.length_cons]
    omega
end Go.Proofs.Ytnancifnodbkdaa

